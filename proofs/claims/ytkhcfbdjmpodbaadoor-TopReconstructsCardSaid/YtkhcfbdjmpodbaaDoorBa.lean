/- Plain facts on sounds: two sets of features as numbers. -/
import Derived.Test.YtkhcfbdjmpodbaaDoorSyMem
import Derived.Maps.AppendAt
import Derived.ArgAppend
import Derived.Laws.OwnMore
import Derived.Deep.OwnRows
set_option linter.unusedSimpArgs false
set_option linter.unusedVariables false
/- Plain facts on sounds: two sets of features as numbers. -/
namespace Go.Sy
open Go

theorem pick_or (c y : Bool) : (bif c then true else y) = (c || y) := by cases c <;> rfl
theorem pick_and (c x : Bool) : (bif c then x else false) = (c && x) := by cases c <;> rfl
theorem wrap_u32 (n : Nat) (h : n < 2 ^ 32) : IntKind.u32.wrap (n : Int) = n := by
  unfold IntKind.wrap
  simp [IntKind.signed, IntKind.bits]
  omega
theorem ar_and (a b : Nat) (ha : a < 2 ^ 32) (hb : b < 2 ^ 32) : ar .and .u32 a b = ((a &&& b : Nat) : Int) := by
  have h : (a &&& b) < 2 ^ 32 := Nat.and_lt_two_pow _ hb
  show IntKind.u32.wrap ((BitVec.ofInt 32 (a : Int) &&& BitVec.ofInt 32 (b : Int)).toNat : Int) = _
  have : (BitVec.ofInt 32 (a : Int) &&& BitVec.ofInt 32 (b : Int)).toNat = a &&& b := by
    rw [BitVec.ofInt_natCast, BitVec.ofInt_natCast, BitVec.toNat_and, BitVec.toNat_ofNat, BitVec.toNat_ofNat, Nat.mod_eq_of_lt ha, Nat.mod_eq_of_lt hb]
  rw [this, wrap_u32 _ h]
theorem ar_or (a b : Nat) (ha : a < 2 ^ 32) (hb : b < 2 ^ 32) : ar .or .u32 a b = ((a ||| b : Nat) : Int) := by
  have h : (a ||| b) < 2 ^ 32 := Nat.or_lt_two_pow ha hb
  show IntKind.u32.wrap ((BitVec.ofInt 32 (a : Int) ||| BitVec.ofInt 32 (b : Int)).toNat : Int) = _
  have : (BitVec.ofInt 32 (a : Int) ||| BitVec.ofInt 32 (b : Int)).toNat = a ||| b := by
    rw [BitVec.ofInt_natCast, BitVec.ofInt_natCast, BitVec.toNat_or, BitVec.toNat_ofNat, BitVec.toNat_ofNat, Nat.mod_eq_of_lt ha, Nat.mod_eq_of_lt hb]
  rw [this, wrap_u32 _ h]
theorem ar_xor (a b : Nat) (ha : a < 2 ^ 32) (hb : b < 2 ^ 32) : ar .xor .u32 a b = ((a ^^^ b : Nat) : Int) := by
  have h : (a ^^^ b) < 2 ^ 32 := Nat.xor_lt_two_pow ha hb
  show IntKind.u32.wrap ((BitVec.ofInt 32 (a : Int) ^^^ BitVec.ofInt 32 (b : Int)).toNat : Int) = _
  have : (BitVec.ofInt 32 (a : Int) ^^^ BitVec.ofInt 32 (b : Int)).toNat = a ^^^ b := by
    rw [BitVec.ofInt_natCast, BitVec.ofInt_natCast, BitVec.toNat_xor, BitVec.toNat_ofNat, BitVec.toNat_ofNat, Nat.mod_eq_of_lt ha, Nat.mod_eq_of_lt hb]
  rw [this, wrap_u32 _ h]
def nandN (a b : Nat) : Nat := a &&& (b ^^^ (2 ^ 32 - 1))
theorem ar_shr (a f : Nat) (hf : f < 32) : ar .shr .u32 a f = ((a >>> f : Nat) : Int) := by
  show Int.fdiv (a : Int) (2 ^ (min (f : Int).toNat IntKind.u32.bits)) = _
  have h1 : min (f : Int).toNat IntKind.u32.bits = f := by simp [IntKind.bits]; omega
  rw [h1, Nat.shiftRight_eq_div_pow, Int.fdiv_eq_ediv_of_nonneg _ (Int.pow_nonneg (by decide))]
  norm_cast
/-! The lowest set bit. -/
def tab : List Int := [0, 1, 28, 2, 29, 14, 24, 3, 30, 22, 20, 15, 25, 17, 4, 8, 31, 27, 13, 23, 21, 19, 16, 7, 26, 12, 18, 6, 11, 5, 10, 9]
theorem low_and (k m : Nat) (h : 2 ^ k * (2 * m + 1) < 2 ^ 32) : (2 ^ k * (2 * m + 1)) &&& (2 ^ 32 - 2 ^ k * (2 * m + 1)) = 2 ^ k := by
  have hk : 0 < 2 ^ k := Nat.two_pow_pos k
  have hn : 2 ^ k * (2 * m + 1) = (2 ^ k * (2 * m) + (2 ^ k - 1)) + 1 := by rw [Nat.mul_add]; omega
  have hk32 : k < 32 := by
    rcases Nat.lt_or_ge k 32 with h' | h'
    · exact h'
    · have := Nat.pow_le_pow_right (n := 2) (by omega) h'
      have h3 : 2 ^ k ≤ 2 ^ k * (2 * m + 1) := Nat.le_mul_of_pos_right _ (by omega)
      omega
  apply Nat.eq_of_testBit_eq
  intro i
  rw [Nat.testBit_and]
  conv => lhs; rhs; rw [hn, Nat.testBit_two_pow_sub_succ (by rw [hn] at h; omega)]
  rw [Nat.testBit_two_pow_mul_add _ (by omega), Nat.testBit_two_pow_sub_one, Nat.testBit_two_pow, Nat.testBit_two_pow_mul]
  rcases Nat.lt_trichotomy i k with hi | rfl | hi
  · have : ¬ i ≥ k := by omega
    simp [this, hi]; omega
  · simp [hk32, Nat.mul_comm 2 m]
  · have h1 : ¬ i < k := by omega
    have h2 : i ≥ k := by omega
    obtain ⟨j, hj⟩ : ∃ j, i - k = j + 1 := ⟨i - k - 1, by omega⟩
    have h3 : (2 * m + 1).testBit (i - k) = m.testBit j := by rw [hj, Nat.testBit_succ]; congr 1; omega
    have h4 : (2 * m).testBit (i - k) = m.testBit j := by rw [hj, Nat.testBit_succ]; congr 1; omega
    have h5 : k ≠ i := by omega
    simp only [h1, h2, h3, h4, h5, if_false, decide_true, decide_false, Bool.true_and]
    cases m.testBit j <;> simp
theorem low_ex (n : Nat) (h : 0 < n) : ∃ k m, n = 2 ^ k * (2 * m + 1) := by
  induction n using Nat.strongRecOn with
  | _ n ih =>
    rcases Nat.mod_two_eq_zero_or_one n with h0 | h1
    · obtain ⟨k, m, hk⟩ := ih (n / 2) (by omega) (by omega)
      exact ⟨k + 1, m, by rw [Nat.pow_succ, Nat.mul_comm (2 ^ k) 2, Nat.mul_assoc, ← hk]; omega⟩
    · exact ⟨0, n / 2, by omega⟩
theorem tab_low (k : Nat) (hk : k < 32) : tab.getD ((2 ^ k * 125613361 % 2 ^ 32) >>> 27) 0 = (k : Int) := by
  revert k; decide
theorem ar_neg (n : Nat) (h0 : 0 < n) (h : n < 2 ^ 32) : ar .sub .u32 0 (n : Int) = ((2 ^ 32 - n : Nat) : Int) := by
  show IntKind.u32.wrap (0 - (n : Int)) = _
  unfold IntKind.wrap
  simp [IntKind.signed, IntKind.bits]
  omega
theorem ar_mul (a b : Nat) : ar .mul .u32 (a : Int) (b : Int) = ((a * b % 2 ^ 32 : Nat) : Int) := by
  show IntKind.u32.wrap ((a : Int) * b) = _
  unfold IntKind.wrap
  simp [IntKind.signed, IntKind.bits]
theorem tz_ix (k m : Nat) (h : 2 ^ k * (2 * m + 1) < 2 ^ 32) :
    ar .shr .u32 (ar .mul .u32 (ar .and .u32 ((2 ^ k * (2 * m + 1) : Nat) : Int) (ar .sub .u32 0 ((2 ^ k * (2 * m + 1) : Nat) : Int))) 125613361) 27 = (((2 ^ k * 125613361 % 2 ^ 32) >>> 27 : Nat) : Int) := by
  have h0 : 0 < 2 ^ k * (2 * m + 1) := Nat.mul_pos (Nat.two_pow_pos k) (by omega)
  rw [ar_neg _ h0 h, ar_and _ _ h (by omega), low_and k m h]
  rw [show (125613361 : Int) = ((125613361 : Nat) : Int) from rfl, ar_mul]
  exact ar_shr _ 27 (by omega)
/-! Counters. -/
theorem wrap_i64 {n : Int} (h1 : -9223372036854775808 ≤ n) (h2 : n ≤ 9223372036854775807) : IntKind.i64.wrap n = n := by
  unfold IntKind.wrap
  simp [IntKind.signed, IntKind.bits]
  omega
theorem add_i64 (n : Nat) (h : n < 9223372036854775807) : ar .add .i64 (n : Int) 1 = ((n + 1 : Nat) : Int) := by
  show IntKind.i64.wrap _ = _
  rw [wrap_i64 (by omega) (by omega)]; simp
theorem addI {a b : Int} (h1 : -9223372036854775808 ≤ a + b) (h2 : a + b ≤ 9223372036854775807) : ar .add .i64 a b = a + b := wrap_i64 h1 h2
theorem subI {a b : Int} (h1 : -9223372036854775808 ≤ a - b) (h2 : a - b ≤ 9223372036854775807) : ar .sub .i64 a b = a - b := wrap_i64 h1 h2
end Go.Sy
/- Sounds in plain Lean: two sets of features as numbers; their bits. -/
namespace Go.Sy
open Go
abbrev Snd := Nat × Nat
def Sok (s : Snd) : Prop := s.1 < 2 ^ 32 ∧ s.2 < 2 ^ 32
def snd (s : Snd) : Value := .agg #[.int .u32 s.1, .int .u32 s.2]
def valid (s : Snd) : Bool := (s.1 &&& s.2 == 0) && decide (s.1 ||| s.2 ≤ 16777215)
theorem valid_iff (s : Snd) : valid s = true ↔ (∀ i, ¬ (s.1.testBit i = true ∧ s.2.testBit i = true)) ∧ s.1 < 2 ^ 24 ∧ s.2 < 2 ^ 24 := by
  unfold valid
  rw [Bool.and_eq_true, beq_iff_eq, decide_eq_true_eq]
  constructor
  · rintro ⟨h0, h1⟩
    refine ⟨fun i hi => ?_, ?_, ?_⟩
    · have := congrArg (·.testBit i) h0
      simp [Nat.testBit_and, hi.1, hi.2] at this
    · have := Nat.left_le_or (n := s.1) (m := s.2); omega
    · have := Nat.right_le_or (n := s.1) (m := s.2); omega
  · rintro ⟨h0, h1, h2⟩
    refine ⟨Nat.eq_of_testBit_eq fun i => ?_, ?_⟩
    · have := h0 i
      rw [Nat.testBit_and, Nat.zero_testBit]
      cases h : s.1.testBit i <;> cases h' : s.2.testBit i <;> simp [h, h'] at this ⊢
    · have := Nat.or_lt_two_pow h1 h2; omega
theorem bit_big {a n i : Nat} (h : a < 2 ^ n) (hi : n ≤ i) : a.testBit i = false := Nat.testBit_lt_two_pow (Nat.lt_of_lt_of_le h (Nat.pow_le_pow_right (by omega) hi))
theorem Sok.of_valid {s : Snd} (h : valid s = true) : Sok s := by
  obtain ⟨_, h1, h2⟩ := (valid_iff s).1 h
  exact ⟨by omega, by omega⟩
theorem Snd.ext {s t : Snd} (h1 : ∀ g, s.1.testBit g = t.1.testBit g) (h2 : ∀ g, s.2.testBit g = t.2.testBit g) : s = t :=
  Prod.ext (Nat.eq_of_testBit_eq h1) (Nat.eq_of_testBit_eq h2)
/-! The functions. -/
def diffS (a b : Snd) : Nat := if valid a && valid b then (a.1 ^^^ b.1) ||| (a.2 ^^^ b.2) else 0
end Go.Sy
/- Bundles of equations, for short calls of simp. -/
namespace Go.Sy
open Go
def gI : Option U → Int | some (.i n) => n | _ => 0
def gB : Option U → Bool | some (.b n) => n | _ => false
def gV : Option U → Value | some (.v n) => n | _ => .nilFunc
def gP : Option U → Option Addr | some (.p n) => n | _ => none
theorem evE : (∀ ρ n, IT.eval ρ (.lit n) = n) ∧ (∀ ρ i, IT.eval ρ (.var i) = Env.int ρ i) ∧ (∀ ρ op k x y, IT.eval ρ (.bin op k x y) = ar op k (x.eval ρ) (y.eval ρ)) ∧ (∀ ρ k x, IT.eval ρ (.conv k x) = k.wrap (x.eval ρ)) ∧ (∀ ρ x y, IT.eval ρ (.mn x y) = if y.eval ρ < x.eval ρ then y.eval ρ else x.eval ρ)
    ∧ (∀ ρ x y, IT.eval ρ (.mx x y) = if y.eval ρ > x.eval ρ then y.eval ρ else x.eval ρ) ∧ (∀ ρ x (s : Nat) b, IT.eval ρ (.off x s b) = b.eval ρ + x.eval ρ * s) ∧ (∀ ρ x y, IT.eval ρ (.dif x y) = x.eval ρ - y.eval ρ) ∧ (∀ ρ a b x y, IT.eval ρ (.ifeq a b x y) = if a.eval ρ = b.eval ρ then x.eval ρ else y.eval ρ)
    ∧ (∀ ρ b, BT.eval ρ (.lit b) = b) ∧ (∀ ρ i, BT.eval ρ (.var i) = Env.bool ρ i) ∧ (∀ ρ op x y, BT.eval ρ (.cmp op x y) = cm op (x.eval ρ) (y.eval ρ)) ∧ (∀ ρ x, BT.eval ρ (.not x) = !x.eval ρ) ∧ (∀ ρ c x y, BT.eval ρ (.pick c x y) = bif c.eval ρ then x.eval ρ else y.eval ρ) ∧ (∀ ρ x y, BT.eval ρ (.beq x y) = (x.eval ρ == y.eval ρ)) ∧ (∀ ρ i, BT.eval ρ (.some i) = (Env.ptr ρ i).isSome)
    ∧ (∀ ρ i, Env.int ρ i = gI ρ[i]?) ∧ (∀ ρ i, Env.bool ρ i = gB ρ[i]?) ∧ (∀ ρ i, Env.val ρ i = gV ρ[i]?) ∧ (∀ ρ i, Env.ptr ρ i = gP ρ[i]?) ∧ (∀ n, gI (some (.i n)) = n) ∧ (∀ n, gB (some (.b n)) = n) ∧ (∀ n, gV (some (.v n)) = n) ∧ (∀ n, gP (some (.p n)) = n)
    ∧ (∀ L ρ, SV.den L ρ .undef = Go.undef) ∧ (∀ L ρ, SV.den L ρ .junk = Go.undef) ∧ (∀ L ρ k t, SV.den L ρ (.int k t) = .int k (t.eval ρ)) ∧ (∀ L ρ t, SV.den L ρ (.bool t) = .bool (t.eval ρ)) ∧ (∀ L ρ i, SV.den L ρ (.val i) = Env.val ρ i) ∧ (∀ L ρ b off, SV.den L ρ (.loc b off) = .pointer (some ⟨L.getD b 0, off, none⟩))
    ∧ (∀ L ρ b off len cap, SV.den L ρ (.slc b off len cap) = .slice (some ⟨L.getD b 0, off, none⟩) len cap) ∧ (∀ L ρ i off, SV.den L ρ (.ptr i off) = .pointer (atAddr ρ i (off.eval ρ))) ∧ (∀ L ρ i off len cap, SV.den L ρ (.sl i off len cap) = .slice (atAddr ρ i (off.eval ρ)) (len.eval ρ).toNat (cap.eval ρ).toNat)
    ∧ (∀ L ρ l, SV.den L ρ (.agg l) = .agg (SV.dens L ρ l).toArray) ∧ (∀ L ρ l, SV.den L ρ (.tup l) = .tuple (SV.dens L ρ l).toArray) ∧ (∀ L ρ f a b, SV.den L ρ (.fn f a b) = .func f (SV.dens L ρ a).toArray (SV.dens L ρ b).toArray) ∧ (∀ L ρ v, SV.den L ρ (.cst v) = v) ∧ (∀ L ρ g x, SV.den L ρ (.grd g x) = bif g.eval ρ then x.den L ρ else Go.undef)
    ∧ (∀ L ρ, SV.dens L ρ [] = []) ∧ (∀ L ρ x l, SV.dens L ρ (x :: l) = x.den L ρ :: SV.dens L ρ l) :=
  ⟨fun _ _ => rfl, fun _ _ => rfl, fun _ _ _ _ _ => rfl, fun _ _ _ => rfl, fun _ _ _ => rfl, fun _ _ _ => rfl, fun _ _ _ _ => rfl, fun _ _ _ => rfl, fun _ _ _ _ _ => rfl, fun _ _ => rfl, fun _ _ => rfl, fun _ _ _ _ => rfl, fun _ _ => rfl, fun _ _ _ _ => rfl, fun _ _ _ => rfl, fun _ _ => rfl, fun _ _ => rfl, fun _ _ => rfl, fun _ _ => rfl, fun _ _ => rfl, fun _ => rfl, fun _ => rfl, fun _ => rfl, fun _ => rfl, fun _ _ => rfl, fun _ _ => rfl, fun _ _ _ _ => rfl, fun _ _ _ => rfl, fun _ _ _ => rfl, fun _ _ _ _ => rfl, fun _ _ _ _ _ _ => rfl, fun _ _ _ _ => rfl, fun _ _ _ _ _ _ => rfl, fun _ _ _ => rfl, fun _ _ _ => rfl, fun _ _ _ _ _ => rfl, fun _ _ _ => rfl, fun _ _ _ _ => rfl, fun _ _ => rfl, fun _ _ _ _ => rfl⟩
theorem aN {α : Type _} (l : List α) : l ++ [] = l := List.append_nil l
theorem liE : (∀ {α β : Type} (f : α → List β) x xs, List.flatMap f (x :: xs) = f x ++ List.flatMap f xs) ∧ (∀ {α β : Type} (f : α → List β), List.flatMap f [] = []) ∧ (∀ {α : Type} (a : α) (as bs : List α), a :: as ++ bs = a :: (as ++ bs)) ∧ (∀ {α : Type} (as : List α), [] ++ as = as) ∧ (∀ {α : Type} (as bs cs : List α), as ++ bs ++ cs = as ++ (bs ++ cs))
    ∧ (∀ {α : Type} (a : α) (as : List α), (a :: as)[0]? = some a) ∧ (∀ {α : Type} (a : α) (as : List α) (i : Nat), (a :: as)[i + 1]? = as[i]?) :=
  ⟨fun _ _ _ => List.flatMap_cons, fun _ => rfl, fun _ _ _ => rfl, fun _ => rfl, fun _ _ _ => List.append_assoc .., fun _ _ => rfl, fun _ _ _ => rfl⟩
theorem cmE : (∀ x y : Int, cm .eql x y = (x == y)) ∧ (∀ x y : Int, cm .neq x y = (x != y)) ∧ (∀ x y : Int, cm .lss x y = decide (x < y)) ∧ (∀ x y : Int, cm .leq x y = decide (x ≤ y)) ∧ (∀ x y : Int, cm .gtr x y = decide (x > y)) ∧ (∀ x y : Int, cm .geq x y = decide (x ≥ y))
    ∧ (∀ {α : Type} (a b : α), cond true a b = a) ∧ (∀ {α : Type} (a b : α), cond false a b = b) ∧ (∀ c y : Bool, (bif c then true else y) = (c || y)) ∧ (∀ c x : Bool, (bif c then x else false) = (c && x))
    ∧ (∀ a b : Bool, ((a || b) = true) = (a = true ∨ b = true)) ∧ (∀ a b : Bool, ((a && b) = true) = (a = true ∧ b = true)) ∧ (∀ x y : Bool, ((x || y) = false) ↔ x = false ∧ y = false) ∧ (∀ x y : Bool, ((x && y) = false) ↔ x = false ∨ y = false) ∧ (∀ b : Bool, ((!b) = true) = (b = false)) ∧ (∀ b : Bool, ((!b) = false) = (b = true))
    ∧ (∀ (p : Prop) [Decidable p], (decide p = true) = p) ∧ (∀ (p : Prop) [Decidable p], (decide p = false) ↔ ¬ p) ∧ (∀ a b : Int, ((a == b) = true) ↔ a = b) ∧ (∀ a b : Int, ((a == b) = false) ↔ a ≠ b) ∧ (∀ a b : Bool, ((a == b) = true) ↔ a = b) ∧ (∀ a b : Bool, ((a == b) = false) ↔ a ≠ b) ∧ (∀ a b : Int, ((a != b) = true) ↔ a ≠ b) ∧ (∀ a b : Int, ((a != b) = false) ↔ a = b)
    ∧ (∀ a b : Int, (a ≥ b) ↔ b ≤ a) ∧ (∀ a b : Int, (a > b) ↔ b < a) ∧ (∀ a b : Int, (¬ a < b) ↔ b ≤ a) ∧ (∀ a b : Int, (¬ a ≤ b) ↔ b < a) :=
  ⟨fun _ _ => rfl, fun _ _ => rfl, fun _ _ => rfl, fun _ _ => rfl, fun _ _ => rfl, fun _ _ => rfl, fun _ _ => rfl, fun _ _ => rfl, pick_or, pick_and, Bool.or_eq_true, Bool.and_eq_true, fun _ _ => Bool.or_eq_false_iff, fun _ _ => Bool.and_eq_false_iff, fun b => by cases b <;> simp, fun b => by cases b <;> simp, fun _ => decide_eq_true_eq, fun _ => decide_eq_false_iff_not, fun _ _ => beq_iff_eq, fun _ _ => beq_eq_false_iff_ne, fun _ _ => beq_iff_eq, fun _ _ => beq_eq_false_iff_ne, fun _ _ => bne_iff_ne, fun _ _ => bne_eq_false_iff_eq, fun _ _ => Iff.rfl, fun _ _ => Iff.rfl, fun _ _ => Int.not_lt, fun _ _ => Int.not_le⟩
end Go.Sy
/- Slices' cells; costs; the features of a set, in plain Lean. -/
namespace Go.Sy
open Go
def slv (p : Option Addr) (n cap : Nat) : Value := .slice (p.map fun a => a.add 0) n cap
theorem map_add0 (p : Option Addr) : p.map (fun a => a.add (Int.toNat 0)) = p := by cases p <;> simp [addr_zero]
def Cells (R : Mv) (p : Option Addr) (xs : List Value) : Prop := ∀ (i : Nat) x, xs[i]? = some x → ∃ b o, p = some ⟨b, o, none⟩ ∧ R b (o + i) = some x
theorem Cells.mono {R S : Mv} {p : Option Addr} {xs : List Value} (h : Cells R p xs) (hle : R.le S) : Cells S p xs := fun i x hx => let ⟨b, o, h1, h2⟩ := h i x hx; ⟨b, o, h1, hle _ _ _ h2⟩
theorem Cells.some {R : Mv} {p : Option Addr} {xs : List Value} (h : Cells R p xs) {i : Nat} (hi : i < xs.length) : ∃ b o, p = some ⟨b, o, none⟩ := let ⟨b, o, h1, _⟩ := h i _ (List.getElem?_eq_getElem hi); ⟨b, o, h1⟩
section
variable {P : Program} {c : Cx} {L : List Nat} {ρ : Env} {blks : List Blk} {m : Mem} {R : Value → HW → Prop} {Dn : Nat → List U → HW → Prop} {A : List (List U → HW → Prop)}
theorem DenM.loadC {i : Nat} {off : IT} {sh : List Sh} {k : Tree} (us : List U) (p : Option Addr) (xs : List Value) (j : Nat) (hp : ρ.ptr i = p) (ho : off.eval ρ = j) (hus : Sh.eats sh us = some []) (hc : Good c L m → Cells (vw c L ρ blks m) p xs) (hj : j < xs.length)
    (hx : ∀ (q : Nat) v, (SV.dens L (ρ ++ us) (Sh.freshs sh ρ.length).1)[q]? = some v → xs[j + q]? = some v) (hk : DenM P R Dn k L (ρ ++ us) c m A) : DenM P R Dn (.load i off sh blks k) L ρ c m A := fun g => by
  obtain ⟨b, o, hpe⟩ := (hc g).some hj
  refine DenM.load us b (o + j) (usOk_of hus) ?_ (fun g q v hv => ?_) hk g
  · simp [atAddr, hp, hpe, ho, addr_add]
  · obtain ⟨b', o', h1, h2⟩ := hc g (j + q) v (hx q v hv)
    rw [hpe] at h1; cases h1
    rw [Nat.add_assoc]; exact h2
theorem DenM.load1 {i : Nat} {off : IT} {s : Sh} {k : Tree} (v : Value) (p : Option Addr) (xs : List Value) (j : Nat) (hp : ρ.ptr i = p) (ho : off.eval ρ = j) (hc : Good c L m → Cells (vw c L ρ blks m) p xs) (hx : xs[j]? = some v)
    (hk : DenM P R Dn k L (ρ ++ lU v) c m A) (hus : Sh.eats [s] (lU v) = some [] := by rfl) (hv : SV.dens L (ρ ++ lU v) (Sh.freshs [s] ρ.length).1 = [v] := by rfl) : DenM P R Dn (.load i off [s] blks k) L ρ c m A :=
  DenM.loadC (lU v) p xs j hp ho hus hc (List.getElem?_eq_some_iff.1 hx).1 (fun q w hw => by
    rw [hv] at hw
    cases q with
    | zero => simp at hw; subst hw; exact hx
    | succ q => simp at hw) hk
end
/-! Costs. -/
def costs (p : Option Addr) (n cap : Nat) (gap : Int) : Value := .agg #[slv p n cap, .int .i64 gap]
def CostsAt (R : Mv) (p : Option Addr) (ws : List Int) : Prop := Cells R p (ws.map (.int .i64))
def badW (w : Int) : Bool := decide (w < 0) || decide (w > 1073741824)
def checkC (ws : List Int) (gap : Int) : Int := if ws.length > 24 ∨ gap < 0 ∨ gap > 1073741824 ∨ ws.any badW = true then 2 else 0
theorem checkC_zero {ws : List Int} {gap : Int} (h : checkC ws gap = 0) : ws.length ≤ 24 ∧ 0 ≤ gap ∧ gap ≤ 1073741824 ∧ ∀ w ∈ ws, 0 ≤ w ∧ w ≤ 1073741824 := by
  unfold checkC at h
  split at h
  · cases h
  · rename_i hn
    simp only [not_or, List.any_eq_true, not_exists, not_and] at hn
    refine ⟨by omega, by omega, by omega, fun w hw => ?_⟩
    have := hn.2.2.2 w hw
    simp [badW] at this
    omega
def sumW (n : Nat) : List Int → Int
  | [] => 0
  | w :: ws => (if n.testBit 0 = true then w else 0) + sumW (n / 2) ws
theorem sumW_snoc (n : Nat) (ws : List Int) (w : Int) : sumW n (ws ++ [w]) = sumW n ws + if n.testBit ws.length = true then w else 0 := by
  induction ws generalizing n with
  | nil => simp [sumW]
  | cons x ws ih =>
    simp only [List.cons_append, sumW, ih, List.length_cons, Nat.testBit_succ]
    omega
theorem sumW_bound (n : Nat) (ws : List Int) (h : ∀ w ∈ ws, 0 ≤ w ∧ w ≤ 1073741824) : 0 ≤ sumW n ws ∧ sumW n ws ≤ 1073741824 * ws.length := by
  induction ws generalizing n with
  | nil => simp [sumW]
  | cons x ws ih =>
    have hx := h x (by simp)
    have := ih (n / 2) fun w hw => h w (by simp [hw])
    simp only [sumW, List.length_cons]
    split <;> omega
def distC (s t : Snd) (ws : List Int) (gap : Int) : Int × Int := if valid s = false ∨ valid t = false then (0, 14) else if checkC ws gap ≠ 0 then (0, checkC ws gap) else (sumW (diffS s t) ws, 0)
/-! The features of a set. -/
def bitsL (n : Nat) : List Nat := (List.range 32).filter fun i => n.testBit i
theorem bitsL_zero : bitsL 0 = [] := by decide
theorem clear_low (k m : Nat) : (2 ^ k * (2 * m + 1)) &&& (2 ^ k * (2 * m + 1) - 1) = 2 ^ k * (2 * m) := by
  have hk : 0 < 2 ^ k := Nat.two_pow_pos k
  have hn : 2 ^ k * (2 * m + 1) - 1 = 2 ^ k * (2 * m) + (2 ^ k - 1) := by rw [Nat.mul_add]; omega
  apply Nat.eq_of_testBit_eq
  intro i
  rw [Nat.testBit_and, hn, Nat.testBit_two_pow_mul_add _ (by omega), Nat.testBit_two_pow_mul, Nat.testBit_two_pow_mul, Nat.testBit_two_pow_sub_one]
  rcases Nat.lt_trichotomy i k with hi | rfl | hi
  · have : ¬ i ≥ k := by omega
    simp [this]
  · simp [Nat.mul_comm 2 m]
  · have h1 : ¬ i < k := by omega
    have h2 : i ≥ k := by omega
    obtain ⟨j, hj⟩ : ∃ j, i - k = j + 1 := ⟨i - k - 1, by omega⟩
    have h3 : (2 * m + 1).testBit (i - k) = m.testBit j := by rw [hj, Nat.testBit_succ]; congr 1; omega
    have h4 : (2 * m).testBit (i - k) = m.testBit j := by rw [hj, Nat.testBit_succ]; congr 1; omega
    simp only [h1, h2, h3, h4, if_false, decide_true, Bool.true_and, Bool.and_self]
theorem bitsL_low {k m : Nat} (hk : k < 32) : bitsL (2 ^ k * (2 * m + 1)) = k :: bitsL (2 ^ k * (2 * m)) := by
  have hsplit : List.range 32 = List.range k ++ k :: List.range' (k + 1) (31 - k) := by
    rw [List.range_eq_range', List.range_eq_range']
    have h1 : List.range' 0 32 = List.range' 0 k ++ List.range' k (32 - k) := by
      have := List.range'_append (s := 0) (m := k) (n := 32 - k) (step := 1)
      rw [show k + (32 - k) = 32 by omega] at this
      simpa using this.symm
    rw [h1]
    congr 1
    have : 32 - k = (31 - k) + 1 := by omega
    rw [this, List.range'_succ]
  have low : ∀ i ∈ List.range k, (2 ^ k * (2 * m + 1)).testBit i = false ∧ (2 ^ k * (2 * m)).testBit i = false := fun i hi => by
    have hi : i < k := by simpa using hi
    have : ¬ i ≥ k := by omega
    simp [Nat.testBit_two_pow_mul, this]
  have at' : (2 ^ k * (2 * m + 1)).testBit k = true ∧ (2 ^ k * (2 * m)).testBit k = false := by
    simp [Nat.testBit_two_pow_mul]
  have high : ∀ i ∈ List.range' (k + 1) (31 - k), (2 ^ k * (2 * m + 1)).testBit i = (2 ^ k * (2 * m)).testBit i := fun i hi => by
    have hi : k + 1 ≤ i := (List.mem_range'_1.1 hi).1
    have h2 : i ≥ k := by omega
    obtain ⟨j, hj⟩ : ∃ j, i - k = j + 1 := ⟨i - k - 1, by omega⟩
    have h3 : (2 * m + 1).testBit (i - k) = m.testBit j := by rw [hj, Nat.testBit_succ]; congr 1; omega
    have h4 : (2 * m).testBit (i - k) = m.testBit j := by rw [hj, Nat.testBit_succ]; congr 1; omega
    rw [Nat.testBit_two_pow_mul, Nat.testBit_two_pow_mul, h3, h4]
  unfold bitsL
  rw [hsplit, List.filter_append, List.filter_append, List.filter_cons, List.filter_cons, at'.1, at'.2]
  have e1 : (List.range k).filter (fun i => (2 ^ k * (2 * m + 1)).testBit i) = [] := List.filter_eq_nil_iff.2 (fun i hi => by rw [(low i hi).1]; simp)
  have e2 : (List.range k).filter (fun i => (2 ^ k * (2 * m)).testBit i) = [] := List.filter_eq_nil_iff.2 (fun i hi => by rw [(low i hi).2]; simp)
  rw [e1, e2]
  simp only [List.nil_append, if_true, Bool.false_eq_true, if_false]
  congr 1
  exact List.filter_congr fun i hi => high i hi
def addW (ws : List Int) : Int → List Nat → Int
  | s, [] => s
  | s, f :: l => addW ws (s + (ws[f]?).getD 0) l
theorem addW_add (ws : List Int) (s : Int) (l : List Nat) : addW ws s l = s + addW ws 0 l := by
  induction l generalizing s with
  | nil => simp [addW]
  | cons f l ih => simp only [addW]; rw [ih, ih (0 + _)]; omega
theorem addW_append (ws : List Int) (s : Int) (l l' : List Nat) : addW ws s (l ++ l') = addW ws (addW ws s l) l' := by
  induction l generalizing s with
  | nil => rfl
  | cons f l ih => simp only [List.cons_append, addW]; exact ih _
theorem addW_bitsL (n : Nat) (ws : List Int) (h : ws.length ≤ 32) : addW ws 0 (bitsL n) = sumW n ws := by
  have key : ∀ j, j ≤ 32 → addW ws 0 ((List.range j).filter fun i => n.testBit i) = sumW n (ws.take j) := by
    intro j
    induction j with
    | zero => intro _; simp [addW, sumW]
    | succ j ih =>
      intro hj
      rw [List.range_succ, List.filter_append, addW_append, ih (by omega)]
      by_cases hl : j < ws.length
      · rw [List.take_succ_eq_append_getElem hl, sumW_snoc]
        have : (ws.take j).length = j := by simp; omega
        rw [this]
        by_cases hb : n.testBit j = true
        · simp [hb, addW, hl]
        · simp [hb, addW]
      · have e1 : ws.take (j + 1) = ws := List.take_of_length_le (by omega)
        have e2 : ws.take j = ws := List.take_of_length_le (by omega)
        rw [e1, e2]
        by_cases hb : n.testBit j = true
        · simp [hb, addW, List.getElem?_eq_none (by omega : ws.length ≤ j)]
        · simp [hb, addW]
  have := key 32 (by omega)
  rw [List.take_of_length_le h] at this
  exact this
theorem addW_bound (ws : List Int) (h : ∀ w ∈ ws, 0 ≤ w ∧ w ≤ 1073741824) (l : List Nat) : 0 ≤ addW ws 0 l ∧ addW ws 0 l ≤ 1073741824 * l.length := by
  induction l with
  | nil => simp [addW]
  | cons f l ih =>
    have : 0 ≤ (ws[f]?).getD 0 ∧ (ws[f]?).getD 0 ≤ 1073741824 := by
      cases e : ws[f]? with
      | none => simp
      | some w => exact h w (List.mem_of_getElem? e)
    simp only [addW, List.length_cons]
    rw [addW_add]
    omega
theorem bitsL_len (n : Nat) : (bitsL n).length ≤ 32 := by
  have := List.length_filter_le (fun i => n.testBit i) (List.range 32)
  simpa [bitsL] using this
end Go.Sy
/- Laws of sounds in plain Lean. -/
namespace Go.Sy
open Go
end Go.Sy
/- Slices that the code owns: rows in memory; append. -/
namespace Go.Sy
open Go Go.RowKit
section
variable {P : Program} {c : Cx} {L : List Nat} {ρ : Env} {blks : List Blk} {m : Mem} {R : Value → HW → Prop} {Dn : Nat → List U → HW → Prop} {A : List (List U → HW → Prop)}
theorem DenM.extM {p : Bool} {x : XOp} {sh : Sh} {k : Tree} (hs : scBlks ρ.length blks = true) (h : Good c L m → ∀ w, Wd L ρ blks (c.hw m) w → ∃ v w' g0 m' us, (XOp.sem x.op x.type (SV.dens L ρ x.args)).run P w = .ok (.value v) w' ∧ w.grownBy w' g0 ∧ (∀ g, g0 = some g → m g ≠ none) ∧
      (∀ b, b < w.heap.size → some b ≠ g0 → m' b = m b) ∧ (HW.mem m').H w' ∧ (p = true → g0 = none) ∧ UOk sh us ∧ v = (sh.fresh ρ.length).1.den L (ρ ++ us) ∧ DenM P R Dn k L (ρ ++ us) c m' A) : DenM P R Dn (.ext p x sh blks k) L ρ c m A := fun g w hw => by
  obtain ⟨v, w', g0, m', us, hrun, hgr, hg0, hm', hH, hp, hus, hv, hk⟩ := h g w hw
  have hgood : Good c L m' := ⟨fun b hb' ho => by
      have hlt := c.hb.inb w b hw.hold.1 ho
      by_cases e : some b = g0
      · exact g.mem b (hg0 b e.symm) ho
      · rw [hm' b hlt e] at hb'; exact g.mem b hb' ho, fun b hb' => ⟨by
      have e : some b ≠ g0 := fun e => hg0 b e.symm (g.blk b hb').1
      rw [hm' b (hw.lt b hb') e]; exact (g.blk b hb').1, (g.blk b hb').2⟩, g.nd⟩
  have hblk : ∀ b, b < w.heap.size → m b = none → w'.heap[b]? = w.heap[b]? ∧ m' b = none := fun b hb hn => by
    have e : some b ≠ g0 := fun e => hg0 b e.symm hn
    exact ⟨hgr.block b hb e, (hm' b hb e).trans hn⟩
  have hwd : Wd L ρ blks (c.hw m') w' := ⟨hw.len, fun j k hj => (hblk _ (hw.lt _ (getD_mem (by rw [hw.len]; exact (List.getElem?_eq_some_iff.1 hj).1))) (g.blk _ (getD_mem (by rw [hw.len]; exact (List.getElem?_eq_some_iff.1 hj).1))).1).1.trans (hw.blk j k hj), hw.nd, fun b hb ho => by
    rcases ho with ho | ho
    · exact (g.blk b hb).2 ho
    · exact ho (hgood.blk b hb).1, c.hb.stab w w' hw.hold.1 hgr.size (fun b hb => (hblk b (c.hb.inb w b hw.hold.1 hb) (by
      cases hm : m b with
      | none => rfl
      | some o => exact absurd hb (g.mem b (by rw [hm]; simp)))).1) hgr.tape hgr.os hgr.output, hH⟩
  refine ⟨v, w', hrun, us, c.hw m', hus, hv, ⟨hgr.size, fun k hk hn => ?_, hgr.tape, hgr.os, hgr.output⟩, fun hpt w2 hw2 => ?_, (Wd.letters hs).2 hwd, hk hgood⟩
  · have hn' : m k = none := by
      cases hm : m k with
      | none => rfl
      | some o => exact absurd (Or.inl (.inr (by show m k ≠ none; rw [hm]; simp))) hn
    have h2 := hblk k hk hn'
    refine ⟨fun ho => ?_, h2.1⟩
    rcases ho with (ho | ho) | ho
    · exact hn (.inl (.inl ho))
    · exact ho h2.2
    · exact hn (.inr ho)
  · have h2 := (Wd.letters hs).1 hw2
    have hg := hp hpt
    exact ⟨h2.len, h2.blk, h2.nd, fun b hb' ho => by
      rcases ho with ho | ho
      · exact (g.blk b hb').2 ho
      · exact ho (g.blk b hb').1, h2.hold.1, fun b o hbo => h2.hold.2 b o (by
      have hlt : b < w.heap.size := (HW.mem m).inb w b hw.hold.2 (by show m b ≠ none; rw [hbo]; simp)
      rw [hm' b hlt (by rw [hg]; simp)]; exact hbo)⟩
structure El (P : Program) (t e : TypeId) (size bytes : Nat) : Prop where
  und : P.underlying t = some (.slice e)
  info : ∃ i z, P.info? e = some i ∧ i.zero = some z ∧ i.size = size ∧ i.bytes = bytes ∧ z.cells.size = size
  pos : 0 < size
def elB (P : Program) (t e : TypeId) (size bytes : Nat) : Bool := (match P.underlying t with | some (.slice e') => e' == e | _ => false) && (match P.info? e with | some i => (match i.zero with | some z => i.size == size && i.bytes == bytes && z.cells.size == size | none => false) | none => false) && decide (0 < size)
theorem El.of {P : Program} {t e : TypeId} {size bytes : Nat} (h : elB P t e size bytes = true) : El P t e size bytes := by
  unfold elB at h
  rw [Bool.and_eq_true, Bool.and_eq_true, decide_eq_true_eq] at h
  obtain ⟨⟨h1, h2⟩, h3⟩ := h
  refine ⟨?_, ?_, h3⟩
  · split at h1
    · rename_i e' hu
      rw [hu, beq_iff_eq.1 h1]
    · cases h1
  · split at h2
    · rename_i i hi
      split at h2
      · rename_i z hz
        simp only [Bool.and_eq_true, beq_iff_eq] at h2
        exact ⟨i, z, hi, hz, h2.1.1, h2.1.2, h2.2⟩
      · cases h2
    · cases h2
theorem vw_mem {c : Cx} {L : List Nat} {ρ : Env} {blks : List Blk} {m : Mem} (g : Good c L m) {b : Nat} {cur : Array Value} {e : TypeId} {fr : Nat × Nat} (h : m b = some (.cells cur e fr)) (o : Nat) : vw c L ρ blks m b o = cur[o]? := by
  have hb : b ∉ L := fun hb => by rw [(g.blk b hb).1] at h; cases h
  show (match blkMem L ρ L blks m b with | some (.cells c _ _) => c[o]? | some _ => none | none => c.R b o) = _
  rw [blkMem_not hb, h]
def Row (m : Mem) (e : TypeId) (size : Nat) (q : Option Addr) (cap n : Nat) (xs : List Value) : Prop :=
  xs.length = n * size ∧ ((q = none ∧ n = 0 ∧ cap = 0) ∨ ∃ g cur, q = some ⟨g, 0, none⟩ ∧ m g = some (.cells cur e (0, 0)) ∧ n ≤ cap ∧ cap ≤ maxLen ∧ cur.size = cap * size ∧ cur.toList.take (n * size) = xs)
theorem Row.nil (m : Mem) (e : TypeId) (size : Nat) : Row m e size none 0 0 [] := ⟨by simp, .inl ⟨rfl, rfl, rfl⟩⟩
theorem Row.keep {m m' : Mem} {e : TypeId} {size : Nat} {q : Option Addr} {cap n : Nat} {xs : List Value} (h : Row m e size q cap n xs) (hk : ∀ g, q = some ⟨g, 0, none⟩ → m g ≠ none → m' g = m g) : Row m' e size q cap n xs := by
  obtain ⟨h1, h2⟩ := h
  refine ⟨h1, ?_⟩
  rcases h2 with h2 | ⟨g, cur, rfl, hg, rest⟩
  · exact .inl h2
  · exact .inr ⟨g, cur, rfl, (hk g rfl (by rw [hg]; simp)).trans hg, rest⟩
theorem Row.owns {m : Mem} {e : TypeId} {size : Nat} {q : Option Addr} {cap n : Nat} {xs : List Value} {w : World} (h : Row m e size q cap n xs) (hw : (HW.mem m).H w) : w.ownsRow 0 e size (slv q n cap) n xs := by
  refine ⟨h.1, ?_⟩
  rcases h.2 with ⟨rfl, rfl, rfl⟩ | ⟨g, cur, rfl, hg, h1, h2, h3, h4⟩
  · exact .inl ⟨rfl, rfl⟩
  · exact .inr ⟨g, cap, cur, rfl, Nat.zero_le _, hw g _ hg, h1, h2, h3, h4⟩
theorem Row.cells {m : Mem} {e : TypeId} {size : Nat} {q : Option Addr} {cap n : Nat} {xs : List Value} (h : Row m e size q cap n xs) {V : Mv} (hV : ∀ g cur, m g = some (.cells cur e (0, 0)) → ∀ o, V g o = cur[o]?) : Cells V q xs := by
  intro i x hx
  rcases h.2 with ⟨rfl, rfl, rfl⟩ | ⟨g, cur, rfl, hg, h1, h2, h3, h4⟩
  · have := h.1
    have : i < xs.length := (List.getElem?_eq_some_iff.1 hx).1
    omega
  · refine ⟨g, 0, rfl, ?_⟩
    rw [hV g cur hg, Nat.zero_add]
    rw [← h4, List.getElem?_take] at hx
    split at hx
    · rw [← Array.getElem?_toList]; exact hx
    · cases hx
theorem slv_fresh (ρ : Env) (L : List Nat) (q : Option Addr) (n cap : Nat) : (Sh.sl.fresh ρ.length).1.den L (ρ ++ [.p q, .i n, .i cap]) = slv q n cap := by
  simp only [Sh.fresh, SV.den, IT.eval, atAddr, env_ptr_at, env_int_at1, env_int_at2, slv]
  cases q <;> simp [addr_zero]
theorem append_core {K : List U → Mem → Prop} {as : Array Operand} {t ty e : TypeId} {size bytes : Nat} {sv xv : SV} {q qx : Option Addr} {cap n kx capx : Nat} {xs news : List Value} (hE : El P t e size bytes) (hR : Row m e size q cap n xs)
    (hx : Good c L m → Cells (vw c L ρ blks m) qx news) (hl : news.length = kx * size) (h1 : ∀ u ∈ news, u.oneCell' = true) (hn : qx = none → capx = 0) (h63 : n + kx ≤ maxLen) (hbytes : (n + kx) * bytes ≤ 140737488355328)
    (hk : ∀ q' cap' m', Row m' e size q' cap' (n + kx) (xs ++ news) → (∀ b, ((∃ o, q = some ⟨b, o, none⟩) → cap < n + kx) → m b ≠ none → m' b = m b) → (q' = q ∨ ∃ g, q' = some ⟨g, 0, none⟩ ∧ m g = none) → K [.p q', .i (n + kx : Nat), .i (cap' : Nat)] m')
    (hv : sv.den L ρ = slv q n cap) (hxv : xv.den L ρ = slv qx kx capx) (g : Good c L m) (w : World) (hw : Wd L ρ blks (c.hw m) w) :
    ∃ v w' g0 m' us, (XOp.sem (.call ⟨.builtin .append, as, #[t, t]⟩) ty (SV.dens L ρ [sv, xv])).run P w = .ok (.value v) w' ∧ w.grownBy w' g0 ∧ (∀ g, g0 = some g → m g ≠ none) ∧
      (∀ b, b < w.heap.size → some b ≠ g0 → m' b = m b) ∧ (HW.mem m').H w' ∧ (false = true → g0 = none) ∧ UOk .sl us ∧ v = (Sh.sl.fresh ρ.length).1.den L (ρ ++ us) ∧ K us m' := by
  obtain ⟨i, z, hi, hz, hsz, hby, hzs⟩ := hE.info
  have hown := hR.owns hw.hold.2
  have key : ∃ v' w' g0, (Builtin.append_ #[t, t] ty #[slv q n cap, slv qx kx capx]).run P w = .ok v' w' ∧ w'.ownsRow 0 e size v' (n + kx) (xs ++ news) ∧ w.grownBy w' g0 ∧ (g0 = none ∨ g0 = (slv q n cap).ownBlock ∧ n + kx ≤ cap) ∧
      (∀ g', v'.ownBlock = some g' → (slv q n cap).ownBlock = some g' ∨ w.heap.size ≤ g') ∧ (v' = .slice none 0 0 → q = none) := by
    rcases qx with _ | xa
    · have hnil : news = [] := by
        cases news with
        | nil => rfl
        | cons a l => obtain ⟨_, _, hc, _⟩ := hx g 0 a rfl; cases hc
      have hk0 : kx = 0 := by
        rw [hnil] at hl
        have := hE.pos
        rcases Nat.mul_eq_zero.1 hl.symm with h | h
        · exact h
        · omega
      rw [hn rfl, hk0, hnil]
      exact ⟨slv q n cap, w, none, run_append_owned_none w 0 t ty e i size hE.und hi (slv q n cap) n xs hown, by simpa using hown, ⟨rfl, rfl, rfl, Nat.le_refl _, fun _ _ _ => rfl⟩, .inl rfl, fun g' h => .inl h, fun h => by cases q with | none => rfl | some a => cases h⟩
    · have hnews : ∀ j u, news[j]? = some u → w.cell? (xa.add j) = some u := fun j u hu => by
        obtain ⟨b, o, hc, hr⟩ := hx g j u hu
        cases hc
        have := vw_cell hw _ _ _ hr
        unfold Mv.of at this
        rw [addr_add]; exact this
      have own : n + kx ≤ cap ∨ q = none → ∃ v' w' g0, (Builtin.append_ #[t, t] ty #[slv q n cap, slv (some xa) kx capx]).run P w = .ok v' w' ∧ w'.ownsRow 0 e size v' (n + kx) (xs ++ news) ∧ w.grownBy w' g0 ∧ (g0 = none ∨ g0 = (slv q n cap).ownBlock ∧ n + kx ≤ cap) ∧
      (∀ g', v'.ownBlock = some g' → (slv q n cap).ownBlock = some g' ∨ w.heap.size ≤ g') ∧ (v' = .slice none 0 0 → q = none) := fun hroom => by
        obtain ⟨v', w', hr, ho, hg, hnil, hb⟩ := run_append_own_at w 0 t ty e i z size bytes hE.und hi hz hsz hby hzs hE.pos (slv q n cap) n xs hown xa kx capx news hl hnews h1 h63 hbytes (Nat.zero_le _)
        refine ⟨v', w', (slv q n cap).ownBlock, hr, ho, hg, ?_, fun g' h => ?_, fun h => by have := (hnil.1 h).1; cases q with | none => rfl | some a => cases this⟩
        · rcases hroom with h | h
          · exact .inr ⟨rfl, h⟩
          · left; rw [h]; rfl
        · rcases hb with hb | hb
          · left; rw [← hb, h]
          · right; rw [hb] at h; cases h; exact Nat.le_refl _
      rcases Nat.lt_or_ge cap (n + kx) with hlt | hge
      · rcases hR.2 with ⟨hq, _, _⟩ | ⟨g2, cur2, hq, hg2, _⟩
        · exact own (.inr hq)
        · have holds := fun j u => hown.cells (g := g2) (by rw [hq]; rfl) j u
          rw [hq]
          obtain ⟨v', w', hr, ho, hg⟩ := run_append_arg_grows w t ty e i z size bytes hE.und hi hz hsz hby hzs hE.pos ⟨g2, 0, none⟩ n cap xs hR.1 holds xa kx capx news hl hnews hlt h63 hbytes
          refine ⟨v', w', none, hr, ⟨ho.1, ?_⟩, hg, .inl rfl, fun g' h => .inr ?_, fun h => ?_⟩
          · rcases ho.2 with h | ⟨a, b, d, h1, _, h3⟩
            · exact .inl h
            · exact .inr ⟨a, b, d, h1, Nat.zero_le _, h3⟩
          · rcases ho.2 with ⟨h', _⟩ | ⟨a, b, d, h', h2, _⟩
            · rw [h'] at h; cases h
            · rw [h'] at h; cases h; exact h2
          · rcases ho.2 with ⟨_, h'⟩ | ⟨a, b, d, h', _⟩
            · omega
            · rw [h'] at h; cases h
      · exact own (.inl hge)
  obtain ⟨v', w', g0, hr, ho, hgr, hg0, hb, hnil⟩ := key
  have hmb : ∀ b, (slv q n cap).ownBlock = some b → m b ≠ none ∧ q = some ⟨b, 0, none⟩ := by
    intro b hb'
    rcases hR.2 with ⟨rfl, _, _⟩ | ⟨g', cur, rfl, hg, _⟩
    · cases hb'
    · cases hb'; exact ⟨by show m g' ≠ none; rw [hg]; simp, rfl⟩
  have hmg : ∀ b, g0 = some b → m b ≠ none ∧ q = some ⟨b, 0, none⟩ ∧ n + kx ≤ cap := by
    intro b hb'
    rcases hg0 with h | ⟨h, h'⟩
    · rw [h] at hb'; cases hb'
    · rw [h] at hb'; exact ⟨(hmb b hb').1, (hmb b hb').2, h'⟩
  have hinb : ∀ b, m b ≠ none → b < w.heap.size := fun b hb' => (HW.mem m).inb w b hw.hold.2 hb'
  have hrun : (XOp.sem (.call ⟨.builtin .append, as, #[t, t]⟩) ty (SV.dens L ρ [sv, xv])).run P w = .ok (.value v') w' := by
    show (builtin .append #[t, t] ty (as.map fun | .const _ => true | _ => false) #[sv.den L ρ, xv.den L ρ]).run P w = _
    rw [hv, hxv]
    show (do pure (Next.value (← Builtin.append_ #[t, t] ty #[slv q n cap, slv qx kx capx])) : Sem Next).run P w = _
    rw [Sem.run_bind, hr]; rfl
  rcases ho.2 with ⟨hv0, hn0⟩ | ⟨g', cap', cur, rfl, _, hg', h5, h6, h7, h8⟩
  · refine ⟨v', w', g0, fun b => if some b = g0 then none else m b, [.p none, .i (n + kx : Nat), .i (0 : Nat)], hrun, hgr, fun b h => (hmg b h).1, fun b _ hne => if_neg hne, fun b o hbo => ?_, fun h => (by cases h), ⟨_, _, _, rfl⟩, ?_, hk none 0 _ ⟨ho.1, .inl ⟨rfl, hn0, rfl⟩⟩ (fun b hb' _ => if_neg fun e' => ?_) ?_⟩
    · dsimp only at hbo
      split at hbo
      · cases hbo
      · rename_i hne
        rw [hgr.block b (hinb b (by rw [hbo]; simp)) hne]; exact hw.hold.2 b o hbo
    · rw [slv_fresh, hv0, hn0]; rfl
    · have h3 := hmg b e'.symm
      have := hb' ⟨0, h3.2.1⟩
      omega
    · exact .inl (hnil hv0).symm
  · have hgq : q = some ⟨g', 0, none⟩ ∨ m g' = none := by
      rcases hb g' rfl with h | h
      · exact .inl (hmb g' h).2
      · right
        cases hm : m g' with
        | none => rfl
        | some o => have := hinb g' (by rw [hm]; simp); omega
    have hsame : ∀ b, b < w.heap.size → some b ≠ g0 → (if b = g' then some (.cells cur e (0, 0)) else if some b = g0 then none else m b : Option Obj) = m b := fun b hlt hne => by
      by_cases e' : b = g'
      · rw [if_pos e']
        subst e'
        rcases hb b rfl with h | h
        · cases hm : m b with
          | none => exact absurd hm (hmb b h).1
          | some o =>
            have h1 := hw.hold.2 b o hm
            rw [← hgr.block b hlt hne, hg'] at h1
            exact h1
        · omega
      · rw [if_neg e', if_neg hne]
    refine ⟨_, w', g0, fun b => if b = g' then some (.cells cur e (0, 0)) else if some b = g0 then none else m b, [.p (some ⟨g', 0, none⟩), .i (n + kx : Nat), .i (cap' : Nat)], hrun, hgr, fun b h => (hmg b h).1, hsame, fun b o hbo => ?_, fun h => (by cases h), ⟨_, _, _, rfl⟩, (slv_fresh ρ L (some ⟨g', 0, none⟩) (n + kx) cap').symm, hk (some ⟨g', 0, none⟩) cap' _ ⟨ho.1, .inr ⟨g', cur, rfl, if_pos rfl, h5, h6, h7, h8⟩⟩ (fun b hbq hmne => hsame b (hinb b hmne) fun e' => ?_) ?_⟩
    · replace hbo : (if b = g' then some (.cells cur e (0, 0)) else if some b = g0 then none else m b : Option Obj) = some o := hbo
      by_cases e' : b = g'
      · rw [if_pos e'] at hbo; cases hbo; rw [e']; exact hg'
      · rw [if_neg e'] at hbo
        split at hbo
        · cases hbo
        · rename_i hne
          rw [hgr.block b (hinb b (by rw [hbo]; simp)) hne]; exact hw.hold.2 b o hbo
    · have h3 := hmg b e'.symm
      have := hbq ⟨0, h3.2.1⟩
      omega
    · rcases hgq with h | h
      · exact .inl h.symm
      · exact .inr ⟨g', rfl, h⟩
theorem DenM.append {as : Array Operand} {t ty e : TypeId} {size bytes : Nat} {sv xv : SV} {k : Tree} {q qx : Option Addr} {cap n kx capx : Nat} {xs news : List Value} (hE : El P t e size bytes) (hR : Row m e size q cap n xs)
    (hx : Good c L m → Cells (vw c L ρ blks m) qx news) (hl : news.length = kx * size) (h1 : ∀ u ∈ news, u.oneCell' = true) (hn : qx = none → capx = 0) (h63 : n + kx ≤ maxLen) (hbytes : (n + kx) * bytes ≤ 140737488355328)
    (hk : ∀ q' cap' m', Row m' e size q' cap' (n + kx) (xs ++ news) → (∀ b, ((∃ o, q = some ⟨b, o, none⟩) → cap < n + kx) → m b ≠ none → m' b = m b) → (q' = q ∨ ∃ g, q' = some ⟨g, 0, none⟩ ∧ m g = none) → DenM P R Dn k L (ρ ++ [.p q', .i (n + kx : Nat), .i (cap' : Nat)]) c m' A)
    (hv : sv.den L ρ = slv q n cap := by rfl) (hxv : xv.den L ρ = slv qx kx capx := by rfl) (hs : scBlks ρ.length blks = true := by rfl) :
    DenM P R Dn (.ext false ⟨.call ⟨.builtin .append, as, #[t, t]⟩, ty, [sv, xv]⟩ .sl blks k) L ρ c m A := .extM hs fun g w hw =>
  append_core (K := fun us m' => DenM P R Dn k L (ρ ++ us) c m' A) hE hR hx hl h1 hn h63 hbytes hk hv hxv g w hw
theorem DenM.appendLitF {p : Bool} {as : Array Operand} {t ty e : TypeId} {size bytes : Nat} {sv xv : SV} {k : Tree} {b0 : Nat} {qx : Option Addr} {kx capx : Nat} {news : List Value} (hE : El P t e size bytes)
    (hx : Good c L m → Cells (vw c L ρ blks m) qx news) (hl : news.length = kx * size) (h1 : ∀ u ∈ news, u.oneCell' = true) (hn : qx = none → capx = 0) (h63 : kx ≤ maxLen) (hbytes : kx * bytes ≤ 140737488355328)
    (hk : ∀ q' cap' m', (kx ≠ 0 → Row m' e size q' cap' kx news) → (kx = 0 → q' = some ⟨b0, 0, none⟩ ∧ cap' = 0) → (∀ b, m b ≠ none → m' b = m b) → (kx ≠ 0 → ∃ g, q' = some ⟨g, 0, none⟩ ∧ m g = none) → DenM P R Dn k L (ρ ++ [.p q', .i (kx : Nat), .i (cap' : Nat)]) c m' A)
    (hv : sv.den L ρ = slv (some ⟨b0, 0, none⟩) 0 0 := by rfl) (hxv : xv.den L ρ = slv qx kx capx := by rfl) (hs : scBlks ρ.length blks = true := by rfl) :
    DenM P R Dn (.ext p ⟨.call ⟨.builtin .append, as, #[t, t]⟩, ty, [sv, xv]⟩ .sl blks k) L ρ c m A := .extM hs fun g w hw => by
  obtain ⟨i, z, hi, hz, hsz, hby, hzs⟩ := hE.info
  have hinb : ∀ b, m b ≠ none → b < w.heap.size := fun b hb' => (HW.mem m).inb w b hw.hold.2 hb'
  have hrun : ∀ v' w', (Builtin.append_ #[t, t] ty #[slv (some ⟨b0, 0, none⟩) 0 0, slv qx kx capx]).run P w = .ok v' w' → (XOp.sem (.call ⟨.builtin .append, as, #[t, t]⟩) ty (SV.dens L ρ [sv, xv])).run P w = .ok (.value v') w' := fun v' w' hr => by
    show (builtin .append #[t, t] ty (as.map fun | .const _ => true | _ => false) #[sv.den L ρ, xv.den L ρ]).run P w = _
    rw [hv, hxv]
    show (do pure (Next.value (← Builtin.append_ #[t, t] ty #[slv (some ⟨b0, 0, none⟩) 0 0, slv qx kx capx])) : Sem Next).run P w = _
    rw [Sem.run_bind, hr]; rfl
  by_cases hk0 : kx = 0
  · subst hk0
    have hr : (Builtin.append_ #[t, t] ty #[slv (some ⟨b0, 0, none⟩) 0 0, slv qx 0 capx]).run P w = .ok (slv (some ⟨b0, 0, none⟩) 0 0) w := by
      rcases qx with _ | xa
      · rw [hn rfl]
        simp [slv, Builtin.append_, run_underlying hE.und, sizeOf, typeInfo, hi, Builtin.lenOf, Builtin.firstCells, storeCells]
      · have := run_append_room_cells w t ty e i hE.und hi b0 0 0 0 xa 0 capx [] (by simp) (by simp) (by simp) (Nat.le_refl _) (by simp) (by simp)
        exact this.trans rfl
    exact ⟨_, w, none, m, [.p (some ⟨b0, 0, none⟩), .i (0 : Nat), .i (0 : Nat)], hrun _ _ hr, ⟨rfl, rfl, rfl, Nat.le_refl _, fun _ _ _ => rfl⟩, fun _ h => (by cases h), fun _ _ _ => rfl, hw.hold.2, fun _ => rfl, ⟨_, _, _, rfl⟩, (slv_fresh ρ L _ _ _).symm,
      hk (some ⟨b0, 0, none⟩) 0 m (fun h => absurd rfl h) (fun _ => ⟨rfl, rfl⟩) (fun _ _ => rfl) fun h => absurd rfl h⟩
  · have hpos := hE.pos
    rcases qx with _ | xa
    · exfalso
      cases news with
      | nil => rcases Nat.mul_eq_zero.1 hl.symm with h | h <;> omega
      | cons a l => obtain ⟨_, _, hc, _⟩ := hx g 0 a rfl; cases hc
    · have hnews : ∀ j u, news[j]? = some u → w.cell? (xa.add j) = some u := fun j u hu => by
        obtain ⟨b, o, hc, hr⟩ := hx g j u hu
        cases hc
        have := vw_cell hw _ _ _ hr
        unfold Mv.of at this
        rw [addr_add]; exact this
      obtain ⟨v', w', hr, ho, hgr⟩ := run_append_arg_grows w t ty e i z size bytes hE.und hi hz hsz hby hzs hE.pos ⟨b0, 0, none⟩ 0 0 [] (by simp) (by simp) xa kx capx news hl hnews (by omega) (by omega) (by simpa using hbytes)
      rcases ho.2 with ⟨_, h'⟩ | ⟨g', cap', cur, rfl, hge, hg', h5, h6, h7, h8⟩
      · omega
      · simp only [Nat.zero_add, List.nil_append] at *
        have hne : ∀ b, b < w.heap.size → b ≠ g' := fun b hb => by omega
        have hmg : m g' = none := by
          cases e : m g' with
          | none => rfl
          | some o => have := hinb g' (by rw [e]; simp); omega
        refine ⟨_, w', none, m.upd g' (.cells cur e (0, 0)), [.p (some ⟨g', 0, none⟩), .i (kx : Nat), .i (cap' : Nat)], hrun _ _ hr, hgr, fun _ h => (by cases h), fun b hb _ => Mem.upd_other _ _ (hne b hb), fun b o hbo => ?_, fun _ => rfl, ⟨_, _, _, rfl⟩, (slv_fresh ρ L (some ⟨g', 0, none⟩) kx cap').symm,
          hk (some ⟨g', 0, none⟩) cap' _ (fun _ => ⟨hl, .inr ⟨g', cur, rfl, Mem.upd_same _ _ _, h5, h6, h7, h8⟩⟩) (fun h => absurd h hk0) (fun b hb => Mem.upd_other _ _ (hne b (hinb b hb))) fun _ => ⟨g', rfl, hmg⟩⟩
        by_cases e' : b = g'
        · rw [e', Mem.upd_same] at hbo; cases hbo; rw [e']; exact hg'
        · rw [Mem.upd_other _ _ e'] at hbo
          rw [hgr.block b (hinb b (by rw [hbo]; simp)) (by simp)]; exact hw.hold.2 b o hbo
theorem DenM.appendLit {p : Bool} {as : Array Operand} {t ty e : TypeId} {size bytes : Nat} {sv xv : SV} {k : Tree} {b0 : Nat} {qx : Option Addr} {kx capx : Nat} {news : List Value} (hE : El P t e size bytes)
    (hx : Good c L m → Cells (vw c L ρ blks m) qx news) (hl : news.length = kx * size) (h1 : ∀ u ∈ news, u.oneCell' = true) (hn : qx = none → capx = 0) (h63 : kx ≤ maxLen) (hbytes : kx * bytes ≤ 140737488355328)
    (hk : ∀ q' cap' m', (kx ≠ 0 → Row m' e size q' cap' kx news) → (kx = 0 → q' = some ⟨b0, 0, none⟩ ∧ cap' = 0) → (∀ b, m b ≠ none → m' b = m b) → DenM P R Dn k L (ρ ++ [.p q', .i (kx : Nat), .i (cap' : Nat)]) c m' A)
    (hv : sv.den L ρ = slv (some ⟨b0, 0, none⟩) 0 0 := by rfl) (hxv : xv.den L ρ = slv qx kx capx := by rfl) (hs : scBlks ρ.length blks = true := by rfl) :
    DenM P R Dn (.ext p ⟨.call ⟨.builtin .append, as, #[t, t]⟩, ty, [sv, xv]⟩ .sl blks k) L ρ c m A :=
  .appendLitF hE hx hl h1 hn h63 hbytes (fun q' cap' m' a b d _ => hk q' cap' m' a b d) hv hxv hs
theorem Row.reads {e : TypeId} {size : Nat} {q : Option Addr} {cap n : Nat} {xs : List Value} (h : Row m e size q cap n xs) (g : Good c L m) : Cells (vw c L ρ blks m) q xs :=
  h.cells fun _ _ hg o => vw_mem g hg o
end
end Go.Sy
/- Alignments of two words in plain Lean: smallest costs, their number, the first of them; common subsequences. -/
namespace Go.Sy
open Go
section
variable (d : Snd → Snd → Int) (g : Int)
def rst0 : List Snd → Int
  | [] => 0
  | _ :: b => g + rst0 b
def rst1 (x : Snd) (f : List Snd → Int) : List Snd → Int
  | [] => g + f []
  | y :: b => min (min (d x y + f b) (g + f (y :: b))) (g + rst1 x f b)
def rst : List Snd → List Snd → Int
  | [] => rst0 g
  | x :: a => rst1 d g x (rst a)
variable {d g}
end
/-! The longest common subsequence. -/
end Go.Sy
namespace Go.Sy
open Go
/-! Words: their errors; steps of alignments; the number of the cheapest alignments; the first of them; the cost of any. -/
def checkW (w : List Snd) : Int := if w.length > 32 then 11 else if w.all valid = true then 0 else 14
theorem checkW_zero {w : List Snd} (h : checkW w = 0) : w.length ≤ 32 ∧ ∀ s ∈ w, valid s = true := by
  unfold checkW at h
  split at h
  · cases h
  · split at h
    · rename_i h1 h2; exact ⟨by omega, fun s hs => List.all_eq_true.1 h2 s hs⟩
    · cases h
def checkL : List (List Snd) → Int
  | [] => 0
  | w :: l => if checkW w ≠ 0 then checkW w else checkL l
def checkE (ws : List Int) (gap : Int) (l : List (List Snd)) : Int := if checkC ws gap ≠ 0 then checkC ws gap else checkL l
section
variable (d : Snd → Snd → Int) (g : Int) (a b : List Snd)
end
def sat (x y : Nat) : Nat := min (x + y) (2 ^ 63)
section
variable (d : Snd → Snd → Int) (g : Int)
def wayN : Nat → List Snd → List Snd → Nat
  | 0, _, _ => 1
  | n + 1, a, b =>
    match a, b with
    | [], [] => 1
    | x :: a, [] => wayN n a []
    | [], y :: b => wayN n [] b
    | x :: a, y :: b =>
      let R := rst d g (x :: a) (y :: b)
      sat (sat (if d x y + rst d g a b = R then wayN n a b else 0) (if g + rst d g a (y :: b) = R then wayN n a (y :: b) else 0)) (if g + rst d g (x :: a) b = R then wayN n (x :: a) b else 0)
def way (a b : List Snd) : Nat := wayN d g (a.length + b.length) a b
variable {d g}
end
section
variable (d : Snd → Snd → Int) (g : Int) (a b : List Snd)
end
end Go.Sy
/- Rules for what code does with slices and tables: elements, words, lists of words, tables in one block; what goes over where a round ends. -/
namespace Go.Sy
open Go Go.RowKit
section
variable {P : Program} {c : Cx} {L : List Nat} {ρ : Env} {blks : List Blk} {m : Mem} {R : Value → HW → Prop} {Dn : Nat → List U → HW → Prop} {A : List (List U → HW → Prop)}
theorem DenM.againL {lvl nb : Nat} {shs : List Sh} {vals : List SV} {I : List U → Mem → Prop} (hA : A[lvl]? = some (inM c I)) (hI : Good c L m → I (Sh.uss L ρ shs vals) (blkMem L ρ (L.drop nb) (blks.drop nb) m)) : DenM P R Dn (.again lvl nb shs vals blks) L ρ c m A := fun g => by
  have hm' : ∀ b, blkMem L ρ (L.drop nb) (blks.drop nb) m b ≠ none → b ∈ L.drop nb ∨ m b ≠ none := fun b hb => by
    by_cases hL : b ∈ L.drop nb
    · exact .inl hL
    · rw [blkMem_not hL] at hb; exact .inr hb
  refine ⟨c.hw (blkMem L ρ (L.drop nb) (blks.drop nb) m), fun w hw => ⟨hw.hold.1, fun b o hb => ?_⟩, fun b hb => ?_, _, hA, _, fun b hb => ?_, rfl, hI g⟩
  · rcases blkMem_spec hb with ⟨j, k, h1, h2, rfl⟩ | h
    · rw [List.getElem?_drop] at h1 h2
      have := hw.blk _ k h2
      simpa [List.getD, h1] using this
    · exact hw.hold.2 b o h
  · rcases hb with hb | hb
    · exact .inl (.inl hb)
    · exact (hm' b hb).elim .inr fun h => .inl (.inr h)
  · rcases hm' b hb with h | h
    · exact (g.blk b (List.drop_subset _ _ h)).2
    · exact g.mem b h
theorem getElem_env (ρ : Env) (us : List U) (k : Nat) : (ρ ++ us)[ρ.length + k]? = us[k]? := by
  rw [List.getElem?_append_right (by omega), Nat.add_sub_cancel_left]
theorem DenM.elem {i : Nat} {I len : IT} {size : Nat} {sh : List Sh} {k : Tree} (us : List U) (xs : List Value) (j n : Nat) (hI : I.eval ρ = (j : Int)) (hn : len.eval ρ = (n : Int)) (hj : j < n) (hus : Sh.eats sh us = some []) (hc : Good c L m → Cells (vw c L ρ blks m) (ρ.ptr i) xs) (hlt : j * size < xs.length)
    (hx : ∀ (q : Nat) v, (SV.dens L (ρ ++ us) (Sh.freshs sh ρ.length).1)[q]? = some v → xs[j * size + q]? = some v) (hk : DenM P R Dn k L (ρ ++ us) c m A) :
    DenM P R Dn (.chk (.pick (.cmp .geq I (.lit 0)) (.pick (.cmp .lss I len) (.some i) (.lit false)) (.lit false)) (.load i (.off I size (.lit 0)) sh blks k)) L ρ c m A := fun g => by
  obtain ⟨b, o, hpe⟩ := (hc g).some hlt
  refine (DenM.chk ?_ (DenM.loadC us (ρ.ptr i) xs (j * size) rfl ?_ hus hc hlt hx hk)) g
  · simp only [BT.eval, IT.eval, hI, hn, hpe, cm, pick_and]
    simp; omega
  · simp only [IT.eval, hI]; simp
theorem DenM.elem1 {i : Nat} {I len : IT} {s : Sh} {k : Tree} (v : Value) (xs : List Value) (j n : Nat) (hI : I.eval ρ = (j : Int)) (hn : len.eval ρ = (n : Int)) (hj : j < n) (hc : Good c L m → Cells (vw c L ρ blks m) (ρ.ptr i) xs) (hx : xs[j]? = some v)
    (hk : DenM P R Dn k L (ρ ++ lU v) c m A) (hus : Sh.eats [s] (lU v) = some [] := by rfl) (hv : SV.dens L (ρ ++ lU v) (Sh.freshs [s] ρ.length).1 = [v] := by rfl) :
    DenM P R Dn (.chk (.pick (.cmp .geq I (.lit 0)) (.pick (.cmp .lss I len) (.some i) (.lit false)) (.lit false)) (.load i (.off I 1 (.lit 0)) [s] blks k)) L ρ c m A :=
  .elem (lU v) xs j n hI hn hj hus hc (by rw [Nat.mul_one]; exact (List.getElem?_eq_some_iff.1 hx).1) (fun q w hw => by
    rw [hv] at hw
    cases q with
    | zero => simp at hw; subst hw; simpa using hx
    | succ q => simp at hw) hk
/-! Words. -/
def scell (s : Snd) : List Value := [.int .u32 s.1, .int .u32 s.2]
def wcells (w : List Snd) : List Value := w.flatMap scell
theorem wcells_len (w : List Snd) : (wcells w).length = w.length * 2 := by
  induction w with
  | nil => rfl
  | cons s w ih => simp only [wcells, List.flatMap_cons, List.length_append, List.length_cons] at *; rw [ih]; simp [scell]; omega
theorem wcells_at (w : List Snd) (j : Nat) (h : j < w.length) : (wcells w)[j * 2]? = some (.int .u32 w[j].1) ∧ (wcells w)[j * 2 + 1]? = some (.int .u32 w[j].2) := by
  induction w generalizing j with
  | nil => simp at h
  | cons s w ih =>
    cases j with
    | zero => exact ⟨rfl, rfl⟩
    | succ j =>
      have := ih j (by simpa using h)
      simp only [wcells, List.flatMap_cons, scell, List.cons_append, List.nil_append] at *
      rw [show (j + 1) * 2 = j * 2 + 2 by omega, show j * 2 + 2 + 1 = (j * 2 + 1) + 2 by omega]
      simpa using this
abbrev WordAt (V : Mv) (p : Option Addr) (w : List Snd) : Prop := Cells V p (wcells w)
theorem DenM.loadW {i : Nat} {I len : IT} {k : Tree} (w : List Snd) (j : Nat) (hj : j < w.length) (hw : Good c L m → WordAt (vw c L ρ blks m) (ρ.ptr i) w) (hk : DenM P R Dn k L (ρ ++ [.i (w[j].1 : Int), .i (w[j].2 : Int)]) c m A) (hI : I.eval ρ = (j : Int) := by rfl) (hn : len.eval ρ = (w.length : Int) := by rfl) :
    DenM P R Dn (.chk (.pick (.cmp .geq I (.lit 0)) (.pick (.cmp .lss I len) (.some i) (.lit false)) (.lit false)) (.load i (.off I 2 (.lit 0)) [(.int .u32), (.int .u32)] blks k)) L ρ c m A := by
  have h := wcells_at w j hj
  refine .elem [.i (w[j].1 : Int), .i (w[j].2 : Int)] (wcells w) j w.length hI hn hj rfl hw (by rw [wcells_len]; omega) (fun q v hv => ?_) hk
  simp only [Sh.freshs, Sh.fresh, SV.dens, SV.den, IT.eval, int_at, env_int_at1] at hv
  match q, hv with
  | 0, hv => simp at hv; rw [← hv]; exact h.1
  | 1, hv => simp at hv; rw [← hv]; exact h.2
  | q + 2, hv => simp at hv
structure WD where
  p : Option Addr
  cap : Nat
  w : List Snd
def WD.v (x : WD) : Value := slv x.p x.w.length x.cap
theorem DenM.loadSl {i : Nat} {I len : IT} {k : Tree} (xs : List Value) (j n : Nat) (q : Option Addr) (kn cap : Nat) (hj : j < n) (hx : xs[j]? = some (slv q kn cap)) (hw : Good c L m → Cells (vw c L ρ blks m) (ρ.ptr i) xs) (hk : DenM P R Dn k L (ρ ++ [.p q, .i kn, .i cap]) c m A) (hI : I.eval ρ = (j : Int) := by rfl) (hn : len.eval ρ = (n : Int) := by rfl) :
    DenM P R Dn (.chk (.pick (.cmp .geq I (.lit 0)) (.pick (.cmp .lss I len) (.some i) (.lit false)) (.lit false)) (.load i (.off I 1 (.lit 0)) [.sl] blks k)) L ρ c m A := by
  refine .elem [.p q, .i kn, .i cap] xs j n hI hn hj rfl hw (by rw [Nat.mul_one]; exact (List.getElem?_eq_some_iff.1 hx).1) (fun q' v hv => ?_) hk
  match q', hv with
  | 0, hv =>
    simp only [Sh.freshs, SV.dens] at hv
    rw [slv_fresh] at hv
    simp only [List.getElem?_cons_zero, Option.some.injEq] at hv
    rw [← hv, Nat.mul_one]; exact hx
  | q' + 1, hv => simp [Sh.freshs, SV.dens] at hv
theorem DenM.loadWD {i : Nat} {I len : IT} {k : Tree} (l : List WD) (j : Nat) (hj : j < l.length) (hw : Good c L m → Cells (vw c L ρ blks m) (ρ.ptr i) (l.map WD.v)) (hk : DenM P R Dn k L (ρ ++ [.p l[j].p, .i l[j].w.length, .i l[j].cap]) c m A) (hI : I.eval ρ = (j : Int) := by rfl) (hn : len.eval ρ = (l.length : Int) := by rfl) :
    DenM P R Dn (.chk (.pick (.cmp .geq I (.lit 0)) (.pick (.cmp .lss I len) (.some i) (.lit false)) (.lit false)) (.load i (.off I 1 (.lit 0)) [.sl] blks k)) L ρ c m A :=
  .loadSl (l.map WD.v) j l.length _ _ _ hj (by simp [hj, WD.v]) hw hk hI hn
/-! A table of 33 rows of 33 numbers in one block, behind other cells. -/
end
end Go.Sy
/- Functions that are ranged over: contracts out of their trees; what stands around a yield; a range inside them. -/
namespace Go.Sy
open Go Go.RowKit
theorem own_of_reads {hT : HW} {b o : Nat} {v : Value} (hw : ∃ w, hT.H w) (h : ∀ w, hT.H w → w.cell? ⟨b, o, none⟩ = some v) : hT.own b := by
  refine Classical.byContradiction fun hn => ?_
  obtain ⟨w, hw⟩ := hw
  have h1 := h w hw
  have h2 := h _ (hT.stab w (w.setRow b #[]) hw (by simp) (fun k hk => setRow_other _ _ _ _ fun e => hn (e ▸ hk)) rfl rfl rfl)
  have hlt := World.block_lt_of_cell? w ⟨b, o, none⟩ h1
  unfold World.cell? at h1
  simp only at h1
  split at h1
  · rename_i cs e fr hb
    have h3 := setRow_heap w b cs #[] e fr hb
    unfold World.cell? at h2
    simp only [h3] at h2
    simp at h2
  · cases h1
theorem own_of_map {hT : HW} {b : Nat} {es : Array MapEntry} (hw : ∃ w, hT.H w) (h : ∀ w, hT.H w → (Mv.of w).m b = some es) : hT.own b := by
  refine Classical.byContradiction fun hn => ?_
  obtain ⟨w, hw⟩ := hw
  obtain ⟨k, h1⟩ := Mv.of_m.1 (h w hw)
  have hlt := (Array.getElem?_eq_some_iff.1 h1).1
  obtain ⟨k2, h2⟩ := Mv.of_m.1 (h { w with heap := w.heap.setIfInBounds b (.cells #[] 0 (0, 0)) } (hT.stab w _ hw (by simp) (fun k hk => by
    have hne : b ≠ k := fun e => hn (by rw [e]; exact hk)
    show (w.heap.setIfInBounds b _)[k]? = _
    rw [Array.getElem?_setIfInBounds_ne hne]) rfl rfl rfl))
  replace h2 : (w.heap.setIfInBounds b (.cells #[] 0 (0, 0)))[b]? = some (.map es k2) := h2
  rw [Array.getElem?_setIfInBounds_self_of_lt hlt] at h2
  cases h2
def Cx.inside (hT : HW) (S : Mv) (hw : ∃ w, hT.H w) (hS : ∀ w, hT.H w → S.le (Mv.of w)) : Cx where
  hb := hT
  R := S
  ok w b o v := fun h hv => hS w h b o v hv
  own b o v := fun hv => own_of_reads hw fun w h => hS w h b o v hv
  okm w b es := fun h hv => (hS w h).m b es hv
  ownm b es := fun hv => own_of_map hw fun w h => (hS w h).m b es hv
def REnd (n : Nat) (J : Nat → HW → Prop) (E : HW → Prop) : Value → HW → Prop := fun _ h' => ∃ hT : HW, (∀ w, h'.H w → hT.H w) ∧ (∀ b, hT.own b → h'.own b) ∧ (J n hT ∨ E hT)
section
variable {P : Program}
theorem Iter.of {gf : FuncId} {shs : List Sh} {t : Tree} (hS : FnIs P gf shs t) (hmix : P.follows .mixedOrders = true) {lb : Array Value} {mf : Mem} {S : Mv} {xs : List (List Value)} (cap : List U)
    (hargs : ∀ yv, SV.dens [] (.v yv :: cap) (Sh.freshs shs 0).1 = yv :: lb.toList) (hus : ∀ yv, Value.oneCell' yv = true → Sh.eats shs (.v yv :: cap) = some [])
    (hd : ∀ (yv : Value) (J : Nat → HW → Prop) (E : HW → Prop), yv.oneCell' = true → YieldOk P yv xs J E → (∀ k h w, J k h → h.H w → S.le (Mv.of w)) → ∀ h (hw : ∃ w, h.H w) (hJ : J 0 h), Disj h (HW.mem mf) →
      DenM P (REnd xs.length J E) (fun _ _ _ => False) t [] (.v yv :: cap) (Cx.around h) mf []) : Iter P gf lb (fun w => S.le (Mv.of w)) (HW.mem mf) xs := by
  intro yv J E h w hyv hy hpre hJ hh hf hdj
  obtain ⟨fn, ann, fuel, hfn, ht⟩ := hS
  have key := fn_sound hfn hmix ht (us := .v yv :: cap) (usOk_of (hus yv hyv)) (args := yv :: lb.toList) (hargs yv) (h := h.sep (HW.mem mf)) (w := w) ⟨hh, hf⟩ (R := REnd xs.length J E)
    (hd yv J E hyv hy hpre h ⟨w, hh⟩ hJ hdj ⟨fun k hk ho => hdj k ho hk, by simp, List.nodup_nil⟩)
  have he : (yv :: lb.toList).toArray = #[yv] ++ lb := by rw [show (yv :: lb.toList) = [yv] ++ lb.toList from rfl]; simp
  rw [he] at key
  refine key.mono ?_
  rintro e w' ⟨v, rfl, h', hH', hg, hT, h1, h2, h3⟩
  exact ⟨⟨v, rfl⟩, hT, h1 w' hH', ⟨hg.size, fun k hk hn => ⟨fun ho => (hg.same k hk hn).1 (h2 k ho), (hg.same k hk hn).2⟩, hg.tape, hg.os, hg.output⟩, h3⟩
end
section
variable {P : Program} {L : List Nat} {ρ : Env} {blks : List Blk} {m : Mem} {R : Value → HW → Prop} {Dn : Nat → List U → HW → Prop} {A : List (List U → HW → Prop)}
theorem DenM.into {hT : HW} {S : Mv} {t : Tree} (hw : ∃ w, hT.H w) (hS : ∀ w, hT.H w → S.le (Mv.of w)) (h : DenM P R Dn t L ρ (Cx.inside hT S hw hS) m A) : DenM P R Dn t L ρ (Cx.around hT) m A := fun g => h ⟨g.mem, g.blk, g.nd⟩
theorem DenM.out {hT : HW} {S : Mv} {t : Tree} {hw : ∃ w, hT.H w} {hS : ∀ w, hT.H w → S.le (Mv.of w)} (h : DenM P R Dn t L ρ (Cx.around hT) m A) : DenM P R Dn t L ρ (Cx.inside hT S hw hS) m A := fun g => h ⟨g.mem, g.blk, g.nd⟩
theorem DenM.yield {c : Cx} {f : SV} {args : List SV} {k : Tree} {yv : Value} {xs : List (List Value)} {J : Nat → HW → Prop} {E : HW → Prop} {q : Nat} {x : List Value} (hy : YieldOk P yv xs J E) (hJ : J q c.hb) (hx : xs[q]? = some x)
    (ht : ∀ hT' (_ : ∃ w, hT'.H w), J (q + 1) hT' → DenM P R Dn k L (ρ ++ [.b true]) (Cx.around hT') m A) (he : ∀ hT', E hT' → DenM P R Dn k L (ρ ++ [.b false]) (Cx.around hT') m A)
    (hf : f.den L ρ = yv := by rfl) (hargs : SV.dens L ρ args = x := by rfl) (hs : scBlks ρ.length blks = true := by rfl) :
    DenM P R Dn (.callv false f args .bool blks k) L ρ c m A := fun g => by
  intro w hw
  rw [hf, hargs]
  refine CallV.mono ?_ (hy q x c.hb w hx hJ hw.hold.1)
  rintro v w' ⟨hT', hH, hg, hor⟩
  have hd : Disj c.hb (HW.mem m) := fun b ho hb => g.mem b hb ho
  have hmem := hg.keeps hw.hold.2 hd.symm
  have hkeep : ∀ b ∈ L, w'.heap[b]? = w.heap[b]? ∧ ¬ hT'.own b := fun b hb => by
    have := hg.same b (hw.lt b hb) (fun ho => hw.good b hb (.inl ho))
    exact ⟨this.2, this.1⟩
  have hgood : Good (Cx.around hT') L m := ⟨fun b hb ho => hmem.2 b hb ho, fun b hb => ⟨(g.blk b hb).1, (hkeep b hb).2⟩, g.nd⟩
  have hwd : Wd L ρ blks (hT'.sep (HW.mem m)) w' := ⟨hw.len, fun j k hj => ((hkeep _ (getD_mem (by rw [hw.len]; exact (List.getElem?_eq_some_iff.1 hj).1))).1).trans (hw.blk j k hj), hw.nd, fun b hb ho => by
    rcases ho with ho | ho
    · exact (hkeep b hb).2 ho
    · exact hw.good b hb (.inr ho), hH, hmem.1⟩
  have hgr : ∀ us, Grow (kw L ρ blks (c.hw m)) w (kw L (ρ ++ us) blks (hT'.sep (HW.mem m))) w' := fun us => ⟨hg.size, fun i hi hn => by
    have h1 := hg.same i hi (fun ho => hn (.inl (.inl ho)))
    refine ⟨fun ho => ?_, h1.2⟩
    rcases ho with (ho | ho) | ho
    · exact h1.1 ho
    · exact hn (.inl (.inr ho))
    · exact hn (.inr ho), hg.tape, hg.os, hg.output⟩
  rcases hor with ⟨rfl, hJ'⟩ | ⟨rfl, hE⟩
  · refine ⟨[.b true], _, ⟨true, rfl⟩, ?_, hgr _, fun h => (by cases h), (Wd.letters hs).2 hwd, ht hT' ⟨w', hH⟩ hJ' hgood⟩
    simp only [Sh.fresh, SV.den, BT.eval]; rw [bool_at]
  · refine ⟨[.b false], _, ⟨false, rfl⟩, ?_, hgr _, fun h => (by cases h), (Wd.letters hs).2 hwd, he hT' hE hgood⟩
    simp only [Sh.fresh, SV.den, BT.eval]; rw [bool_at]
theorem DenM.stop {c : Cx} {x : SV} {n : Nat} {J : Nat → HW → Prop} {E : HW → Prop} (h : J n c.hb ∨ E c.hb) : DenM P (REnd n J E) Dn (.ret x blks) L ρ c m A := fun _ =>
  ⟨c.hw m, fun _ hw => hw.hold, fun _ hb => .inl hb, c.hb, fun _ hw => hw.1, fun _ hb => .inl hb, h⟩
def inY (I : List U → Mem → HW → Prop) : List U → HW → Prop := fun us h => ∃ (hT : HW) (m : Mem), Disj hT (HW.mem m) ∧ h = hT.sep (HW.mem m) ∧ I us m hT
theorem DenM.loopY {c : Cx} {lvl : Nat} {shs : List Sh} {vals : List SV} {head : List Blk} {body : Tree} (I : Nat → List U → Mem → HW → Prop) (n0 : Nat) (h0 : I n0 (Sh.uss L ρ shs vals) m c.hb)
    (hb : ∀ n us m' hT, UsOk shs us → I n us m' hT → (∃ w, hT.H w) → DenM P R Dn body L (ρ ++ us) (Cx.around hT) m' (A.take lvl ++ [inY fun us' m'' hT' => ∃ n', n' < n ∧ I n' us' m'' hT'])) : DenM P R Dn (.loop lvl shs vals blks head body) L ρ c m A := fun g => by
  refine ⟨fun n => inY (I n), n0, ⟨c.hb, m, fun b ho hb => g.mem b hb ho, rfl, h0⟩, ?_⟩
  rintro n us _ hus ⟨hT, m', hm', rfl, hI⟩ ⟨w, hw⟩
  have := hb n us m' hT hus hI ⟨w, hw.hold.1⟩ ⟨fun b hb ho => hm' b ho hb, fun b hb' => ⟨by
    cases hm : m' b with
    | none => rfl
    | some o => exact absurd (Or.inr (by show m' b ≠ none; rw [hm]; simp)) (hw.good b hb'), fun ho => hw.good b hb' (.inl ho)⟩, hw.nd⟩
  have he : (fun us' h' => ∃ m', m' < n ∧ inY (I m') us' h') = inY fun us' m'' hT' => ∃ n', n' < n ∧ I n' us' m'' hT' := by
    funext us' h'
    apply propext
    constructor
    · rintro ⟨n', hn', hT', m2, q1, q2, q3⟩; exact ⟨hT', m2, q1, q2, n', hn', q3⟩
    · rintro ⟨hT', m2, q1, q2, n', hn', q3⟩; exact ⟨n', hn', hT', m2, q1, q2, q3⟩
  rw [he]
  exact this
theorem DenM.againY {c : Cx} {lvl nb : Nat} {shs : List Sh} {vals : List SV} {I : List U → Mem → HW → Prop} (hA : A[lvl]? = some (inY I)) (hI : I (Sh.uss L ρ shs vals) m c.hb) : DenM P R Dn (.again lvl nb shs vals blks) L ρ c m A :=
  fun g => ⟨c.hw m, fun _ hw => hw.hold, fun _ h => .inl h, _, hA, c.hb, m, fun b ho hb => g.mem b hb ho, rfl, hI⟩
def Mem.minus (m mf : Mem) : Mem := fun b => match mf b with | some _ => none | none => m b
theorem Mem.minus_none {m mf : Mem} (b : Nat) (h : m.minus mf b ≠ none) : mf b = none := by
  unfold Mem.minus at h
  cases hf : mf b with
  | none => rfl
  | some o => rw [hf] at h; exact absurd rfl h
theorem Mem.minus_at {m mf : Mem} {b : Nat} (h : mf b = none) : m.minus mf b = m b := by unfold Mem.minus; rw [h]
end
end Go.Sy
/- A variable of which it is known that it is there, and no more: for stores beside loads in one region. -/
namespace Go.Sy
open Go Go.RowKit
def box (e : TypeId) (v : Value) : Obj := .cells #[v] e (0, 0)
def Mem.del (m : Mem) (b : Nat) : Mem := fun k => if k = b then none else m k
theorem Mem.del_same (m : Mem) (b : Nat) : m.del b b = none := if_pos rfl
theorem Mem.del_other (m : Mem) {b k : Nat} (h : k ≠ b) : m.del b k = m k := if_neg h
section
variable {P : Program} {c : Cx} {L : List Nat} {ρ : Env} {blks : List Blk} {m : Mem} {R : Value → HW → Prop} {Dn : Nat → List U → HW → Prop} {A : List (List U → HW → Prop)}
end
end Go.Sy
/- append to a literal of the call's own: in place where nothing is appended, else in new memory. -/
namespace Go.Sy
open Go Go.RowKit
section
variable {P : Program} {c : Cx} {L : List Nat} {ρ : Env} {blks : List Blk} {m : Mem} {R : Value → HW → Prop} {Dn : Nat → List U → HW → Prop} {A : List (List U → HW → Prop)}
end
end Go.Sy
/- append beside other operations of one region: the new row is known by its head alone, so that what is written behind it changes nothing that is known. -/
namespace Go.Sy
open Go Go.RowKit
structure Cx.sub (c2 c : Cx) : Prop where
  H : ∀ w, c2.hb.H w → c.hb.H w
  own : ∀ b, c.hb.own b → c2.hb.own b
  R : c.R.le c2.R
section
variable {P : Program} {c : Cx} {L : List Nat} {ρ : Env} {blks : List Blk} {m : Mem} {R : Value → HW → Prop} {Dn : Nat → List U → HW → Prop} {A : List (List U → HW → Prop)}
end
end Go.Sy
/- make with a length that is not a constant; a store into a row. -/
namespace Go.Sy
open Go Go.RowKit Go.Deep
section
variable {P : Program} {c : Cx} {L : List Nat} {ρ : Env} {blks : List Blk} {m : Mem} {R : Value → HW → Prop} {Dn : Nat → List U → HW → Prop} {A : List (List U → HW → Prop)}
theorem DenM.make {t e : TypeId} {bytes : Nat} {z : Value} {l d : IT} {k : Tree} (n : Nat) (_ht : P.underlying t = some (.slice e)) (hinfo : (P.info? e).map (fun i => (i.zero, i.size, i.bytes)) = some (some z, 1, bytes)) (hz1 : z.cells = #[z]) (hbytes : bytes * n ≤ 281474976710656) (h63 : n ≤ maxLen)
    (hk : ∀ g, m g = none → Row (m.upd g (.cells (madeCells #[z] n) e (0, 0))) e 1 (some ⟨g, 0, none⟩) n n (List.replicate n z) → DenM P R Dn k L (ρ ++ [.p (some ⟨g, 0, none⟩), .i n, .i n]) c (m.upd g (.cells (madeCells #[z] n) e (0, 0))) A)
    (hl : Value.int .i64 (l.eval ρ) = .int .i64 n := by rfl) (hc : Value.int .i64 (d.eval ρ) = .int .i64 n := by rfl) :
    DenM P R Dn (.makev e bytes l d k) L ρ c m A := .makev n n (by simpa using hl) (by simpa using hc) (Nat.le_refl _) hbytes (by simpa [maxLen] using h63) fun g hmn _ _ => by
  have eb : (bigCells P e (some n)).toArray = madeCells #[z] n := by
    cases hi : P.info? e with
    | none => rw [hi] at hinfo; cases hinfo
    | some i =>
      rw [hi] at hinfo
      simp only [Option.map_some, Option.some.injEq, Prod.mk.injEq] at hinfo
      simp [bigCells, zeroCells, sizeT, hi, hinfo.1, hinfo.2.1, hz1]
  rw [eb]
  exact hk g hmn ⟨by simp, .inr ⟨g, _, rfl, Mem.upd_same _ _ _, Nat.le_refl _, h63, by simp [size_madeCells], by rw [toList_madeCells_one]; simp⟩⟩
theorem Row.cap_le {e : TypeId} {size : Nat} {q : Option Addr} {cap n : Nat} {xs : List Value} (h : Row m e size q cap n xs) : n ≤ cap := by
  rcases h.2 with ⟨_, h1, h2⟩ | ⟨_, _, _, _, h, _⟩ <;> omega
theorem DenM.storeR {i : Nat} {I len : IT} {x : SV} {k : Tree} {e : TypeId} {q : Option Addr} {cap n : Nat} {xs : List Value} (j : Nat) (hj : j < n) (hR : Row m e 1 q cap n xs) (hp : ρ.ptr i = q) (hI : I.eval ρ = (j : Int)) (hn : len.eval ρ = (n : Int))
    (hk : ∀ m' g, q = some ⟨g, 0, none⟩ → Row m' e 1 q cap n (xs.set j (x.den L ρ)) → (∀ b, b ≠ g → m' b = m b) → DenM P R Dn k L ρ c m' A) :
    DenM P R Dn (.chk (.pick (.cmp .geq I (.lit 0)) (.pick (.cmp .lss I len) (.some i) (.lit false)) (.lit false)) (.store false i (.off I 1 (.lit 0)) [x] blks k)) L ρ c m A := by
  rcases hR.2 with ⟨_, h, _⟩ | ⟨g, cur, hq, hg, h1, h2, h3, h4⟩
  · omega
  · subst hq
    have hlen : xs.length = n := by rw [hR.1, Nat.mul_one]
    rw [Nat.mul_one] at h3 h4
    refine .chk ?_ (.store g j cur e rfl ?_ hg (by simp; omega) (hk _ g rfl ⟨by rw [List.length_set, Nat.mul_one]; exact hlen, .inr ⟨g, _, rfl, Mem.upd_same _ _ _, h1, h2, ?_, ?_⟩⟩ fun b hb => Mem.upd_other _ _ hb))
    · simp only [BT.eval, IT.eval, hI, hn, hp, cm, pick_and]; simp; omega
    · simp only [atAddr, hp, IT.eval, hI, Option.map_some, addr_add]
      rw [show ((0 : Int) + (j : Int) * ((1 : Nat) : Int)).toNat = j by omega]; simp
    · simp only [putAt, SV.dens, List.size_toArray, List.length_append, List.length_take, List.length_drop, List.length_cons, List.length_nil, Array.length_toList]; omega
    · rw [Nat.mul_one]
      have hput : putAt cur.toList j (SV.dens L ρ [x]) = cur.toList.set j (x.den L ρ) := by
        unfold putAt
        rw [List.set_eq_take_append_cons_drop, if_pos (by simp; omega)]
        simp [SV.dens]
      rw [hput, List.take_set, h4]
end
end Go.Sy
