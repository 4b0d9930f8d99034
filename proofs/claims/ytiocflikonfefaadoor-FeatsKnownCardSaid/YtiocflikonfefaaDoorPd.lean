/- Laws of sounds in plain Lean. -/
import Derived.Test.YtiocflikonfefaaDoorPb
set_option linter.unusedSimpArgs false
set_option linter.unusedVariables false
namespace Go.Sy
open Go
theorem nandN_zero {a b : Nat} (ha : a < 2 ^ 32) : nandN a b = 0 ↔ ∀ i, a.testBit i = true → b.testBit i = true := by
  constructor
  · intro h i h1
    have := testBit_nandN a b i ha
    rw [h, Nat.zero_testBit, h1] at this
    simpa using this.symm
  · intro h
    apply Nat.eq_of_testBit_eq
    intro i
    rw [testBit_nandN a b i ha, Nat.zero_testBit]
    cases h1 : a.testBit i
    · rfl
    · rw [h i h1]; rfl
theorem and_zero {a b : Nat} : a &&& b = 0 ↔ ∀ i, ¬ (a.testBit i = true ∧ b.testBit i = true) := by
  constructor
  · intro h i hi
    have := congrArg (·.testBit i) h
    simp [Nat.testBit_and, hi.1, hi.2] at this
  · intro h
    apply Nat.eq_of_testBit_eq
    intro i
    have := h i
    rw [Nat.testBit_and, Nat.zero_testBit]
    cases h1 : a.testBit i <;> cases h2 : b.testBit i <;> simp_all
theorem sat_iff {r s : Snd} (hr : valid r = true) (hs : valid s = true) : satS r s = true ↔ (∀ i, s.1.testBit i = true → r.1.testBit i = true) ∧ (∀ i, s.2.testBit i = true → r.2.testBit i = true) := by
  have h := Sok.of_valid hs
  unfold satS
  rw [hr, hs]
  simp only [Bool.true_and, Bool.and_eq_true, beq_iff_eq, nandN_zero h.1, nandN_zero h.2]
theorem meet_eq {r s : Snd} (hr : valid r = true) (hs : valid s = true) : meetS r s = (r.1 &&& s.1, r.2 &&& s.2) := by unfold meetS; rw [hr, hs]; rfl
theorem meet_valid {r s : Snd} (hr : valid r = true) (hs : valid s = true) : valid (meetS r s) = true := by
  rw [meet_eq hr hs, valid_iff]
  have h1 := (valid_iff r).1 hr
  refine ⟨fun i hi => ?_, Nat.lt_of_le_of_lt Nat.and_le_left h1.2.1, Nat.lt_of_le_of_lt Nat.and_le_left h1.2.2⟩
  simp only [Nat.testBit_and, Bool.and_eq_true] at hi
  exact h1.1 i ⟨hi.1.1, hi.2.1⟩
theorem meet_comm {r s : Snd} (hr : valid r = true) (hs : valid s = true) : meetS r s = meetS s r := by rw [meet_eq hr hs, meet_eq hs hr, Nat.and_comm, Nat.and_comm r.2]
theorem meet_self {r : Snd} (hr : valid r = true) : meetS r r = r := by rw [meet_eq hr hr, Nat.and_self, Nat.and_self]
theorem meet_assoc {r s t : Snd} (hr : valid r = true) (hs : valid s = true) (ht : valid t = true) : meetS (meetS r s) t = meetS r (meetS s t) := by
  rw [meet_eq (meet_valid hr hs) ht, meet_eq hr (meet_valid hs ht), meet_eq hr hs, meet_eq hs ht, Nat.and_assoc, Nat.and_assoc]
theorem sat_meet {r s : Snd} (hr : valid r = true) (hs : valid s = true) : satS r (meetS r s) = true ∧ satS s (meetS r s) = true := by
  rw [sat_iff hr (meet_valid hr hs), sat_iff hs (meet_valid hr hs), meet_eq hr hs]
  simp only [Nat.testBit_and, Bool.and_eq_true]
  exact ⟨⟨fun _ h => h.1, fun _ h => h.1⟩, fun _ h => h.2, fun _ h => h.2⟩
theorem and_eq_right_iff {a b : Nat} : a &&& b = b ↔ ∀ i, b.testBit i = true → a.testBit i = true := by
  constructor
  · intro h i hi
    rw [← h, Nat.testBit_and, Bool.and_eq_true] at hi
    exact hi.1
  · intro h
    apply Nat.eq_of_testBit_eq
    intro i
    rw [Nat.testBit_and]
    have := h i
    cases h2 : b.testBit i <;> simp_all
theorem sat_is_meet {r s : Snd} (hr : valid r = true) (hs : valid s = true) : satS r s = (((meetS r s).1 : Int) == (s.1 : Int) && ((meetS r s).2 : Int) == (s.2 : Int)) := by
  rw [Bool.eq_iff_iff, sat_iff hr hs, meet_eq hr hs, Bool.and_eq_true, beq_iff_eq, beq_iff_eq, Int.ofNat_inj, Int.ofNat_inj, and_eq_right_iff, and_eq_right_iff]
theorem xor_zero {a b : Nat} : a ^^^ b = 0 ↔ a = b := by
  constructor
  · intro h
    apply Nat.eq_of_testBit_eq
    intro i
    have := congrArg (fun n : Nat => n.testBit i) h
    simp only [Nat.testBit_xor, Nat.zero_testBit] at this
    cases h1 : a.testBit i <;> cases h2 : b.testBit i <;> simp_all
  · rintro rfl; exact Nat.xor_self a
theorem or_zero {a b : Nat} : a ||| b = 0 ↔ a = 0 ∧ b = 0 := Nat.or_eq_zero_iff
theorem diff_zero {r s : Snd} (hr : valid r = true) (hs : valid s = true) : (diffS r s = 0) ↔ r.1 = s.1 ∧ r.2 = s.2 := by
  unfold diffS
  rw [hr, hs, Bool.and_self, if_pos rfl, or_zero, xor_zero, xor_zero]
theorem unify_comm (r s : Snd) : unifyS r s = unifyS s r := by
  unfold unifyS joinS
  rw [Nat.or_comm r.1, Nat.or_comm r.2, Bool.and_comm (valid r)]
theorem join_valid {r s : Snd} (hr : valid r = true) (hs : valid s = true) : valid (joinS r s) = true ↔ r.1 &&& s.2 = 0 ∧ r.2 &&& s.1 = 0 := by
  have h1 := (valid_iff r).1 hr
  have h2 := (valid_iff s).1 hs
  rw [valid_iff, and_zero, and_zero]
  unfold joinS
  simp only [Nat.testBit_or, Bool.or_eq_true]
  constructor
  · rintro ⟨h, _⟩
    exact ⟨fun i hi => h i ⟨.inl hi.1, .inr hi.2⟩, fun i hi => h i ⟨.inr hi.2, .inl hi.1⟩⟩
  · rintro ⟨h, h'⟩
    refine ⟨fun i hi => ?_, Nat.or_lt_two_pow h1.2.1 h2.2.1, Nat.or_lt_two_pow h1.2.2 h2.2.2⟩
    rcases hi with ⟨a | a, b | b⟩
    · exact h1.1 i ⟨a, b⟩
    · exact h i ⟨a, b⟩
    · exact h' i ⟨b, a⟩
    · exact h2.1 i ⟨a, b⟩
theorem unify_ok {r s : Snd} (hr : valid r = true) (hs : valid s = true) : (unifyS r s).2 = (decide (r.1 &&& s.2 = 0) && decide (r.2 &&& s.1 = 0)) := by
  have h := join_valid hr hs
  unfold unifyS
  rw [hr, hs, Bool.and_self, Bool.true_and]
  by_cases hj : valid (joinS r s) = true
  · rw [if_pos hj]; have := h.1 hj; simp [this]
  · rw [if_neg hj]
    rw [h] at hj
    symm
    rw [← Bool.not_eq_true, Bool.and_eq_true, decide_eq_true_eq, decide_eq_true_eq]
    exact hj
theorem unify_none {r s : Snd} (h : (unifyS r s).2 = false) : unifyS r s = ((0, 0), false) := by
  unfold unifyS at *
  split at h
  · cases h
  · rw [if_neg ‹_›]
theorem unify_some {r s : Snd} (hr : valid r = true) (hs : valid s = true) (h : (unifyS r s).2 = true) : valid (joinS r s) = true ∧ unifyS r s = (joinS r s, true) := by
  unfold unifyS at *
  rw [hr, hs, Bool.and_self, Bool.true_and] at *
  split at h
  · exact ⟨‹_›, if_pos ‹_›⟩
  · cases h
theorem sat_join {r s t : Snd} (hr : valid r = true) (hs : valid s = true) (ht : valid t = true) (hj : valid (joinS r s) = true) : satS (joinS r s) r = true ∧ satS (joinS r s) s = true ∧ satS t (joinS r s) = (satS t r && satS t s) := by
  rw [sat_iff hj hr, sat_iff hj hs, Bool.eq_iff_iff, Bool.and_eq_true, sat_iff ht hj, sat_iff ht hr, sat_iff ht hs]
  unfold joinS
  simp only [Nat.testBit_or, Bool.or_eq_true]
  exact ⟨⟨fun _ h => .inl h, fun _ h => .inl h⟩, ⟨fun _ h => .inr h, fun _ h => .inr h⟩,
    fun h => ⟨⟨fun i hi => h.1 i (.inl hi), fun i hi => h.2 i (.inl hi)⟩, fun i hi => h.1 i (.inr hi), fun i hi => h.2 i (.inr hi)⟩,
    fun h => ⟨fun i hi => hi.elim (h.1.1 i) (h.2.1 i), fun i hi => hi.elim (h.1.2 i) (h.2.2 i)⟩⟩
/-- What has both has no opposite values. -/
theorem sat_both {r s t : Snd} (hr : valid r = true) (hs : valid s = true) (ht : valid t = true) (h1 : satS t r = true) (h2 : satS t s = true) : (unifyS r s).2 = true := by
  rw [unify_ok hr hs, Bool.and_eq_true, decide_eq_true_eq, decide_eq_true_eq, and_zero, and_zero]
  rw [sat_iff ht hr] at h1
  rw [sat_iff ht hs] at h2
  have hv := (valid_iff t).1 ht
  exact ⟨fun i hi => hv.1 i ⟨h1.1 i hi.1, h2.2 i hi.2⟩, fun i hi => hv.1 i ⟨h2.1 i hi.2, h1.2 i hi.1⟩⟩
/-- A mix of valid sounds is valid. -/
theorem mix_valid {s t : Snd} (hs : valid s = true) (ht : valid t = true) (x : Nat) : valid (mixS s t x) = true := by
  have h1 := (valid_iff s).1 hs
  have h2 := (valid_iff t).1 ht
  have hb := mixS_ok (s := s) (t := t) (x := x) (n := 24) h1.2 h2.2
  rw [valid_iff]
  refine ⟨fun i hi => ?_, hb.1, hb.2⟩
  rw [(mixS_bit (Sok.of_valid hs) x i).1, (mixS_bit (Sok.of_valid hs) x i).2] at hi
  by_cases e : x.testBit i = true
  · rw [if_pos e, if_pos e] at hi; exact h2.1 i hi
  · rw [if_neg e, if_neg e] at hi; exact h1.1 i hi
theorem take_ok {s t : Snd} (hs : valid s = true) (ht : valid t = true) {x : Nat} (hx : x ≤ 16777215) : takeS s t x = (mixS s t x, 0) := by
  unfold takeS
  rw [if_neg (by simp [hs, ht]), if_neg (by omega)]
theorem testBit_all (i : Nat) : (16777215 : Nat).testBit i = decide (i < 24) := Nat.testBit_two_pow_sub_one 24 i
theorem and_all {x : Nat} : x &&& 16777215 < 2 ^ 24 := Nat.lt_of_le_of_lt Nat.and_le_right (by decide)
theorem mix_all {s t : Snd} (hs : valid s = true) (ht : valid t = true) : mixS s t 16777215 = t := by
  have h1 := (valid_iff s).1 hs
  have h2 := (valid_iff t).1 ht
  refine Snd.ext (fun g => ?_) (fun g => ?_)
  · rw [(mixS_bit (Sok.of_valid hs) _ g).1, testBit_all]
    by_cases e : g < 24
    · simp [e]
    · rw [bit_big h1.2.1 (by omega), bit_big h2.2.1 (by omega)]; simp
  · rw [(mixS_bit (Sok.of_valid hs) _ g).2, testBit_all]
    by_cases e : g < 24
    · simp [e]
    · rw [bit_big h1.2.2 (by omega), bit_big h2.2.2 (by omega)]; simp
theorem mix_zero {s t : Snd} (hs : valid s = true) : mixS s t 0 = s :=
  Snd.ext (fun g => by rw [(mixS_bit (Sok.of_valid hs) _ g).1]; simp) (fun g => by rw [(mixS_bit (Sok.of_valid hs) _ g).2]; simp)
theorem mix_self {s : Snd} (hs : valid s = true) (x : Nat) : mixS s s x = s :=
  Snd.ext (fun g => by rw [(mixS_bit (Sok.of_valid hs) _ g).1]; simp) (fun g => by rw [(mixS_bit (Sok.of_valid hs) _ g).2]; simp)
theorem diff_lt {r s : Snd} : diffS r s < 2 ^ 24 := by
  unfold diffS
  split
  · rename_i h
    rw [Bool.and_eq_true] at h
    have h1 := (valid_iff r).1 h.1
    have h2 := (valid_iff s).1 h.2
    exact Nat.or_lt_two_pow (Nat.xor_lt_two_pow h1.2.1 h2.2.1) (Nat.xor_lt_two_pow h1.2.2 h2.2.2)
  · decide
theorem diff_bit {r s : Snd} (hr : valid r = true) (hs : valid s = true) (i : Nat) : (diffS r s).testBit i = ((r.1.testBit i != s.1.testBit i) || (r.2.testBit i != s.2.testBit i)) := by
  unfold diffS
  rw [hr, hs, Bool.and_self, if_pos rfl, Nat.testBit_or, Nat.testBit_xor, Nat.testBit_xor]
/-- In the features that are taken there is no difference, elsewhere none from before. -/
theorem take_diff {s t : Snd} (hs : valid s = true) (ht : valid t = true) (x : Nat) : diffS (mixS s t x) t &&& x = 0 ∧ nandN (diffS (mixS s t x) s) x = 0 := by
  have hm := mix_valid hs ht x
  have hd : diffS (mixS s t x) s < 2 ^ 32 := Nat.lt_trans diff_lt (by decide)
  rw [and_zero, nandN_zero hd]
  constructor
  · intro i hi
    rw [diff_bit hm ht, (mixS_bit (Sok.of_valid hs) x i).1, (mixS_bit (Sok.of_valid hs) x i).2, if_pos hi.2, if_pos hi.2] at hi
    simp at hi
  · intro i hi
    rw [diff_bit hm hs, (mixS_bit (Sok.of_valid hs) x i).1, (mixS_bit (Sok.of_valid hs) x i).2] at hi
    cases hx : x.testBit i
    · simp [hx] at hi
    · rfl
theorem change_ok {s t : Snd} (hs : valid s = true) (ht : valid t = true) {x : Nat} (hx : x < 2 ^ 24) (hd : x &&& (t.1 ||| t.2) = 0) : changeS s x t = (mixS s t (x ||| (t.1 ||| t.2)), 0) := by
  unfold changeS
  rw [if_neg (by simp [hs, ht]), if_neg (by rintro (h | h) <;> omega)]
theorem clear_ok {k : Nat} {t : Snd} (ht : valid t = true) : nandN (k &&& 16777215) (t.1 ||| t.2) < 2 ^ 24 ∧ nandN (k &&& 16777215) (t.1 ||| t.2) &&& (t.1 ||| t.2) = 0 := by
  have h1 := and_all (x := k)
  refine ⟨nandN_lt h1, and_zero.2 fun i hi => ?_⟩
  rw [testBit_nandN _ _ _ (by omega)] at hi
  simp [hi.2] at hi
/-- What a change does. -/
theorem change_law {s t : Snd} (hs : valid s = true) (ht : valid t = true) {x : Nat} (hx : x < 2 ^ 24) (hd : x &&& (t.1 ||| t.2) = 0) :
    mixS (mixS s t (x ||| (t.1 ||| t.2))) t (x ||| (t.1 ||| t.2)) = mixS s t (x ||| (t.1 ||| t.2)) ∧ satS (mixS s t (x ||| (t.1 ||| t.2))) t = true ∧
    ((mixS s t (x ||| (t.1 ||| t.2))).1 ||| (mixS s t (x ||| (t.1 ||| t.2))).2) &&& x = 0 ∧ nandN (diffS s (mixS s t (x ||| (t.1 ||| t.2)))) (x ||| (t.1 ||| t.2)) = 0 := by
  have vm := mix_valid hs ht (x ||| (t.1 ||| t.2))
  have b1 := mixS_bit (s := s) (t := t) (Sok.of_valid hs) (x ||| (t.1 ||| t.2))
  have b2 := mixS_bit (t := t) (Sok.of_valid vm) (x ||| (t.1 ||| t.2))
  rw [and_zero] at hd
  have hd32 : diffS s (mixS s t (x ||| (t.1 ||| t.2))) < 2 ^ 32 := Nat.lt_trans diff_lt (by decide)
  refine ⟨Snd.ext (fun g => ?_) (fun g => ?_), (sat_iff vm ht).2 ⟨fun i hi => ?_, fun i hi => ?_⟩, and_zero.2 fun i hi => ?_, (nandN_zero hd32).2 fun i hi => ?_⟩
  · rw [(b2 g).1, (b1 g).1]; split <;> rfl
  · rw [(b2 g).2, (b1 g).2]; split <;> rfl
  · rw [(b1 i).1, if_pos (by simp [hi]), hi]
  · rw [(b1 i).2, if_pos (by simp [hi]), hi]
  · have h3 := hd i
    rw [Nat.testBit_or, (b1 i).1, (b1 i).2, if_pos (by simp [hi.2]), if_pos (by simp [hi.2]), ← Nat.testBit_or] at hi
    exact h3 ⟨hi.2, hi.1⟩
  · rw [diff_bit hs vm, (b1 i).1, (b1 i).2] at hi
    cases hy : (x ||| (t.1 ||| t.2)).testBit i
    · simp [hy] at hi
    · rfl
end Go.Sy
