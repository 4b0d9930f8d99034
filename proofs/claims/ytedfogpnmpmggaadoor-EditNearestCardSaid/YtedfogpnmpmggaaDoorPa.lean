/- Plain facts on sounds: two sets of features as numbers. -/
import Derived.Test.YtedfogpnmpmggaaDoorSyMem
set_option linter.unusedSimpArgs false
set_option linter.unusedVariables false
namespace Go.Sy
open Go

theorem pick_or (c y : Bool) : (bif c then true else y) = (c || y) := by cases c <;> rfl
theorem pick_and (c x : Bool) : (bif c then x else false) = (c && x) := by cases c <;> rfl
theorem wrap_u32 (n : Nat) (h : n < 2 ^ 32) : IntKind.u32.wrap (n : Int) = n := by
  unfold IntKind.wrap
  simp [IntKind.signed, IntKind.bits]
  omega
theorem ar_and (a b : Nat) (ha : a < 2 ^ 32) (hb : b < 2 ^ 32) : ar .and .u32 a b = ((a &&& b : Nat) : Int) := by
  have h : (a &&& b) < 2 ^ 32 := Nat.and_lt_two_pow _ hb
  show IntKind.u32.wrap ((BitVec.ofInt 32 (a : Int) &&& BitVec.ofInt 32 (b : Int)).toNat : Int) = _
  have : (BitVec.ofInt 32 (a : Int) &&& BitVec.ofInt 32 (b : Int)).toNat = a &&& b := by
    rw [BitVec.ofInt_natCast, BitVec.ofInt_natCast, BitVec.toNat_and, BitVec.toNat_ofNat, BitVec.toNat_ofNat, Nat.mod_eq_of_lt ha, Nat.mod_eq_of_lt hb]
  rw [this, wrap_u32 _ h]
theorem ar_or (a b : Nat) (ha : a < 2 ^ 32) (hb : b < 2 ^ 32) : ar .or .u32 a b = ((a ||| b : Nat) : Int) := by
  have h : (a ||| b) < 2 ^ 32 := Nat.or_lt_two_pow ha hb
  show IntKind.u32.wrap ((BitVec.ofInt 32 (a : Int) ||| BitVec.ofInt 32 (b : Int)).toNat : Int) = _
  have : (BitVec.ofInt 32 (a : Int) ||| BitVec.ofInt 32 (b : Int)).toNat = a ||| b := by
    rw [BitVec.ofInt_natCast, BitVec.ofInt_natCast, BitVec.toNat_or, BitVec.toNat_ofNat, BitVec.toNat_ofNat, Nat.mod_eq_of_lt ha, Nat.mod_eq_of_lt hb]
  rw [this, wrap_u32 _ h]
theorem ar_xor (a b : Nat) (ha : a < 2 ^ 32) (hb : b < 2 ^ 32) : ar .xor .u32 a b = ((a ^^^ b : Nat) : Int) := by
  have h : (a ^^^ b) < 2 ^ 32 := Nat.xor_lt_two_pow ha hb
  show IntKind.u32.wrap ((BitVec.ofInt 32 (a : Int) ^^^ BitVec.ofInt 32 (b : Int)).toNat : Int) = _
  have : (BitVec.ofInt 32 (a : Int) ^^^ BitVec.ofInt 32 (b : Int)).toNat = a ^^^ b := by
    rw [BitVec.ofInt_natCast, BitVec.ofInt_natCast, BitVec.toNat_xor, BitVec.toNat_ofNat, BitVec.toNat_ofNat, Nat.mod_eq_of_lt ha, Nat.mod_eq_of_lt hb]
  rw [this, wrap_u32 _ h]
/-- a without b. -/
def nandN (a b : Nat) : Nat := a &&& (b ^^^ (2 ^ 32 - 1))
theorem ar_andNot (a b : Nat) (ha : a < 2 ^ 32) : ar .andNot .u32 a b = ((nandN a b : Nat) : Int) := by
  have h : nandN a b < 2 ^ 32 := Nat.lt_of_le_of_lt Nat.and_le_left ha
  show IntKind.u32.wrap ((BitVec.ofInt 32 (a : Int) &&& ~~~ BitVec.ofInt 32 (b : Int)).toNat : Int) = _
  have : (BitVec.ofInt 32 (a : Int) &&& ~~~ BitVec.ofInt 32 (b : Int)).toNat = nandN a b := by
    rw [BitVec.ofInt_natCast, BitVec.ofInt_natCast]
    apply Nat.eq_of_testBit_eq
    intro i
    rw [nandN, Nat.testBit_and, Nat.testBit_xor, Nat.testBit_two_pow_sub_one, ← BitVec.getLsbD, BitVec.getLsbD_and, BitVec.getLsbD_not, BitVec.getLsbD_ofNat, BitVec.getLsbD_ofNat]
    by_cases hi : i < 32
    · simp [hi]
    · have : a.testBit i = false := Nat.testBit_lt_two_pow (Nat.lt_of_lt_of_le ha (Nat.pow_le_pow_right (by omega) (by omega)))
      simp [hi, this]
  rw [this, wrap_u32 _ h]
theorem testBit_nandN (a b i : Nat) (ha : a < 2 ^ 32) : (nandN a b).testBit i = (a.testBit i && !b.testBit i) := by
  rw [nandN, Nat.testBit_and, Nat.testBit_xor, Nat.testBit_two_pow_sub_one]
  by_cases hi : i < 32
  · simp [hi]
  · have : a.testBit i = false := Nat.testBit_lt_two_pow (Nat.lt_of_lt_of_le ha (Nat.pow_le_pow_right (by omega) (by omega)))
    simp [this]
theorem ar_shr (a f : Nat) (hf : f < 32) : ar .shr .u32 a f = ((a >>> f : Nat) : Int) := by
  show Int.fdiv (a : Int) (2 ^ (min (f : Int).toNat IntKind.u32.bits)) = _
  have h1 : min (f : Int).toNat IntKind.u32.bits = f := by simp [IntKind.bits]; omega
  rw [h1, Nat.shiftRight_eq_div_pow, Int.fdiv_eq_ediv_of_nonneg _ (Int.pow_nonneg (by decide))]
  norm_cast
theorem ar_shl1 (f : Nat) (hf : f < 32) : ar .shl .u32 1 f = ((2 ^ f : Nat) : Int) := by
  show IntKind.u32.wrap (1 * 2 ^ (min (f : Int).toNat IntKind.u32.bits)) = _
  have h1 : min (f : Int).toNat IntKind.u32.bits = f := by simp [IntKind.bits]; omega
  rw [h1, Int.one_mul, show ((2 : Int) ^ f) = ((2 ^ f : Nat) : Int) by norm_cast, wrap_u32 _ (Nat.pow_lt_pow_right (by omega) hf)]
/-- '(s >> f) & 1'. -/
theorem ar_bit (a f : Nat) (ha : a < 2 ^ 32) (hf : f < 32) : ar .and .u32 (ar .shr .u32 a f) 1 = ((a.testBit f).toNat : Int) := by
  rw [ar_shr a f hf]
  have h1 : a >>> f < 2 ^ 32 := Nat.lt_of_le_of_lt (Nat.shiftRight_le a f) ha
  have := ar_and (a >>> f) 1 h1 (by omega)
  rw [show ((1 : Nat) : Int) = 1 from rfl] at this
  rw [this]
  congr 1
  rw [Nat.and_one_is_mod, Nat.testBit_eq_decide_div_mod_eq, Nat.shiftRight_eq_div_pow]
  rcases Nat.mod_two_eq_zero_or_one (a / 2 ^ f) with h | h <;> simp [h]
/-! The lowest set bit. -/
def tab : List Int := [0, 1, 28, 2, 29, 14, 24, 3, 30, 22, 20, 15, 25, 17, 4, 8, 31, 27, 13, 23, 21, 19, 16, 7, 26, 12, 18, 6, 11, 5, 10, 9]
theorem low_and (k m : Nat) (h : 2 ^ k * (2 * m + 1) < 2 ^ 32) : (2 ^ k * (2 * m + 1)) &&& (2 ^ 32 - 2 ^ k * (2 * m + 1)) = 2 ^ k := by
  have hk : 0 < 2 ^ k := Nat.two_pow_pos k
  have hn : 2 ^ k * (2 * m + 1) = (2 ^ k * (2 * m) + (2 ^ k - 1)) + 1 := by rw [Nat.mul_add]; omega
  have hk32 : k < 32 := by
    rcases Nat.lt_or_ge k 32 with h' | h'
    · exact h'
    · have := Nat.pow_le_pow_right (n := 2) (by omega) h'
      have h3 : 2 ^ k ≤ 2 ^ k * (2 * m + 1) := Nat.le_mul_of_pos_right _ (by omega)
      omega
  apply Nat.eq_of_testBit_eq
  intro i
  rw [Nat.testBit_and]
  conv => lhs; rhs; rw [hn, Nat.testBit_two_pow_sub_succ (by rw [hn] at h; omega)]
  rw [Nat.testBit_two_pow_mul_add _ (by omega), Nat.testBit_two_pow_sub_one, Nat.testBit_two_pow, Nat.testBit_two_pow_mul]
  rcases Nat.lt_trichotomy i k with hi | rfl | hi
  · have : ¬ i ≥ k := by omega
    simp [this, hi]; omega
  · simp [hk32, Nat.mul_comm 2 m]
  · have h1 : ¬ i < k := by omega
    have h2 : i ≥ k := by omega
    obtain ⟨j, hj⟩ : ∃ j, i - k = j + 1 := ⟨i - k - 1, by omega⟩
    have h3 : (2 * m + 1).testBit (i - k) = m.testBit j := by rw [hj, Nat.testBit_succ]; congr 1; omega
    have h4 : (2 * m).testBit (i - k) = m.testBit j := by rw [hj, Nat.testBit_succ]; congr 1; omega
    have h5 : k ≠ i := by omega
    simp only [h1, h2, h3, h4, h5, if_false, decide_true, decide_false, Bool.true_and]
    cases m.testBit j <;> simp
/-- Every number that is not 0 has a lowest bit. -/
theorem low_ex (n : Nat) (h : 0 < n) : ∃ k m, n = 2 ^ k * (2 * m + 1) := by
  induction n using Nat.strongRecOn with
  | _ n ih =>
    rcases Nat.mod_two_eq_zero_or_one n with h0 | h1
    · obtain ⟨k, m, hk⟩ := ih (n / 2) (by omega) (by omega)
      exact ⟨k + 1, m, by rw [Nat.pow_succ, Nat.mul_comm (2 ^ k) 2, Nat.mul_assoc, ← hk]; omega⟩
    · exact ⟨0, n / 2, by omega⟩
theorem tab_low (k : Nat) (hk : k < 32) : tab.getD ((2 ^ k * 125613361 % 2 ^ 32) >>> 27) 0 = (k : Int) := by
  revert k; decide
theorem ar_neg (n : Nat) (h0 : 0 < n) (h : n < 2 ^ 32) : ar .sub .u32 0 (n : Int) = ((2 ^ 32 - n : Nat) : Int) := by
  show IntKind.u32.wrap (0 - (n : Int)) = _
  unfold IntKind.wrap
  simp [IntKind.signed, IntKind.bits]
  omega
theorem ar_mul (a b : Nat) : ar .mul .u32 (a : Int) (b : Int) = ((a * b % 2 ^ 32 : Nat) : Int) := by
  show IntKind.u32.wrap ((a : Int) * b) = _
  unfold IntKind.wrap
  simp [IntKind.signed, IntKind.bits]
/-- The index that 'TrailingZeros32' takes. -/
theorem tz_ix (k m : Nat) (h : 2 ^ k * (2 * m + 1) < 2 ^ 32) :
    ar .shr .u32 (ar .mul .u32 (ar .and .u32 ((2 ^ k * (2 * m + 1) : Nat) : Int) (ar .sub .u32 0 ((2 ^ k * (2 * m + 1) : Nat) : Int))) 125613361) 27 = (((2 ^ k * 125613361 % 2 ^ 32) >>> 27 : Nat) : Int) := by
  have h0 : 0 < 2 ^ k * (2 * m + 1) := Nat.mul_pos (Nat.two_pow_pos k) (by omega)
  rw [ar_neg _ h0 h, ar_and _ _ h (by omega), low_and k m h]
  rw [show (125613361 : Int) = ((125613361 : Nat) : Int) from rfl, ar_mul]
  exact ar_shr _ 27 (by omega)
/-! Counters. -/
theorem wrap_i64 {n : Int} (h1 : -9223372036854775808 ≤ n) (h2 : n ≤ 9223372036854775807) : IntKind.i64.wrap n = n := by
  unfold IntKind.wrap
  simp [IntKind.signed, IntKind.bits]
  omega
theorem add_i64 (n : Nat) (h : n < 2 ^ 62) : ar .add .i64 (n : Int) 1 = ((n + 1 : Nat) : Int) := by
  show IntKind.i64.wrap _ = _
  rw [wrap_i64 (by omega) (by omega)]; simp
theorem addI {a b : Int} (h1 : -9223372036854775808 ≤ a + b) (h2 : a + b ≤ 9223372036854775807) : ar .add .i64 a b = a + b := wrap_i64 h1 h2
theorem subI {a b : Int} (h1 : -9223372036854775808 ≤ a - b) (h2 : a - b ≤ 9223372036854775807) : ar .sub .i64 a b = a - b := wrap_i64 h1 h2
theorem mulI {a b : Int} (h1 : -9223372036854775808 ≤ a * b) (h2 : a * b ≤ 9223372036854775807) : ar .mul .i64 a b = a * b := wrap_i64 h1 h2
theorem bit_eq (p f : Nat) (hp : p < 2 ^ 32) (hf : f < 32) : cm .eql (ar .and .u32 (ar .shr .u32 (p : Int) (f : Int)) 1) 1 = p.testBit f := by
  rw [ar_bit p f hp hf]
  cases p.testBit f <;> rfl
end Go.Sy
