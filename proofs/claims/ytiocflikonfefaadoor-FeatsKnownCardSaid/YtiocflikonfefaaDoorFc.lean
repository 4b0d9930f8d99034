/- The contracts of Meet, Diff, Take, Change, Order and their references; the small ones. -/
import Derived.Test.YtiocflikonfefaaDoorFb
set_option linter.unusedSimpArgs false
set_option linter.unusedVariables false
namespace Go.Proofs.YtiocflikonfefaaDoor
open Go Go.Sy Go.RowKit
theorem meetS_bit (s t : Snd) {f : Nat} (hf : f < 24) : (meetS s t).1.testBit f = (getV s f == getV t f && getV s f == 1) ∧ (meetS s t).2.testBit f = (getV s f == getV t f && getV s f == -1) := by
  by_cases hs : valid s = true <;> by_cases ht : valid t = true
  · have g1 := getV_one hs hf; have g2 := getV_one ht hf
    simp only [meetS, hs, ht, Bool.and_self, if_true, Nat.testBit_and, g1.1, g1.2, g2.1, g2.2]
    rcases getV_range s f with r1 | r1 | r1 <;> rcases getV_range t f with r2 | r2 | r2 <;> simp [r1, r2]
  · have e : getV t f = 0 := by simp [getV, ht]
    simp only [meetS, hs, ht, e]
    rcases getV_range s f with r1 | r1 | r1 <;> simp [r1]
  · have e : getV s f = 0 := by simp [getV, hs]
    simp [meetS, hs, e]
  · have e : getV s f = 0 := by simp [getV, hs]
    simp [meetS, hs, e]
theorem c_meet (s t : Snd) (h : Sok s) (h' : Sok t) : Ret Tryd.prog n_feats_Meet [snd s, snd t] (snd (meetS s t)) := by
  refine Fn.of S_feats_Meet mx [.i s.1, .i s.2, .i t.1, .i t.2] rfl rfl fun c _ => .alloc fun _ => .alloc fun _ => .alloc fun _ => .callV (c_valid s h) (fun _ => trivial) ?_
  refine .ite (fun h1 => .ret rfl ?_) (fun h1 => .callV (c_valid t h') (fun _ => trivial) (.ite (fun h2 => .ret rfl ?_) (fun h2 => .ret rfl ?_))) <;> ((try simp only [BT.eval, IT.eval, SV.den, SV.dens, Env.int, Env.bool, Env.val, Env.ptr, letsOf, letU, snd, List.flatMap_cons, List.flatMap_nil, List.cons_append, List.nil_append, List.append_assoc, List.getElem?_cons_zero, List.getElem?_cons_succ] at h1); (try simp only [cm, cond_true, cond_false, pick_or, pick_and, Bool.or_eq_true, Bool.and_eq_true, Bool.or_eq_false_iff, Bool.and_eq_false_iff, Bool.not_eq_true', Bool.not_eq_false', decide_eq_true_eq, decide_eq_false_iff_not, beq_iff_eq, beq_eq_false_iff_ne, bne_iff_ne, bne_eq_false_iff_eq, ge_iff_le, gt_iff_lt, Int.not_lt, Int.not_le] at h1))
  · simp [meetS, h1]; rfl
  · ((try simp only [BT.eval, IT.eval, SV.den, SV.dens, Env.int, Env.bool, Env.val, Env.ptr, letsOf, letU, snd, List.flatMap_cons, List.flatMap_nil, List.cons_append, List.nil_append, List.append_assoc, List.getElem?_cons_zero, List.getElem?_cons_succ] at h2); (try simp only [cm, cond_true, cond_false, pick_or, pick_and, Bool.or_eq_true, Bool.and_eq_true, Bool.or_eq_false_iff, Bool.and_eq_false_iff, Bool.not_eq_true', Bool.not_eq_false', decide_eq_true_eq, decide_eq_false_iff_not, beq_iff_eq, beq_eq_false_iff_ne, bne_iff_ne, bne_eq_false_iff_eq, ge_iff_le, gt_iff_lt, Int.not_lt, Int.not_le] at h2)); simp [meetS, h2]; rfl
  · ((try simp only [BT.eval, IT.eval, SV.den, SV.dens, Env.int, Env.bool, Env.val, Env.ptr, letsOf, letU, snd, List.flatMap_cons, List.flatMap_nil, List.cons_append, List.nil_append, List.append_assoc, List.getElem?_cons_zero, List.getElem?_cons_succ] at h2); (try simp only [cm, cond_true, cond_false, pick_or, pick_and, Bool.or_eq_true, Bool.and_eq_true, Bool.or_eq_false_iff, Bool.and_eq_false_iff, Bool.not_eq_true', Bool.not_eq_false', decide_eq_true_eq, decide_eq_false_iff_not, beq_iff_eq, beq_eq_false_iff_ne, bne_iff_ne, bne_eq_false_iff_eq, ge_iff_le, gt_iff_lt, Int.not_lt, Int.not_le] at h2))
    show Value.agg #[.int .u32 (ar .and .u32 (s.1 : Int) t.1), .int .u32 (ar .and .u32 (s.2 : Int) t.2)] = _
    rw [ar_and _ _ h.1 h'.1, ar_and _ _ h.2 h'.2]; simp [meetS, h1, h2]; rfl
theorem Sok.zero : Sok (0, 0) := ⟨by simp, by simp⟩
theorem c_refMeet (s t : Snd) (h : Sok s) (h' : Sok t) : Ret Tryd.prog n_ref01_Meet [snd s, snd t] (snd (meetS s t)) := by
  refine Fn.of S_ref01_Meet mx [.i s.1, .i s.2, .i t.1, .i t.2] rfl rfl fun c _ => .alloc fun _ => .alloc fun _ => .alloc fun _ => .alloc fun _ => ?_
  refine .loop (fun n us _ => ∃ (f : Nat) (out : Snd), us = [.i f, .i out.1, .i out.2] ∧ n + f = 24 ∧ Upto out (meetS s t) (0, 0) f) 24 ⟨0, (0, 0), rfl, rfl, Upto.start Sok.zero⟩ ?_
  rintro n _ m _ ⟨f, out, rfl, hn, hu⟩
  refine .ite (fun h3 => ?_) (fun h3 => .ret rfl ?_) <;> ((try simp only [BT.eval, IT.eval, SV.den, SV.dens, Env.int, Env.bool, Env.val, Env.ptr, letsOf, letU, snd, List.flatMap_cons, List.flatMap_nil, List.cons_append, List.nil_append, List.append_assoc, List.getElem?_cons_zero, List.getElem?_cons_succ] at h3); (try simp only [cm, cond_true, cond_false, pick_or, pick_and, Bool.or_eq_true, Bool.and_eq_true, Bool.or_eq_false_iff, Bool.and_eq_false_iff, Bool.not_eq_true', Bool.not_eq_false', decide_eq_true_eq, decide_eq_false_iff_not, beq_iff_eq, beq_eq_false_iff_ne, bne_iff_ne, bne_eq_false_iff_eq, ge_iff_le, gt_iff_lt, Int.not_lt, Int.not_le] at h3))
  · have hf : f < 24 := by omega
    obtain ⟨b1, b2⟩ := meetS_bit s t hf
    have hstep : ∀ out' : Snd, Upto out' (meetS s t) (0, 0) (f + 1) → ∃ n', n' < n ∧ ∃ (f' : Nat) (out'' : Snd), [U.i (ar .add .i64 (f : Int) 1), U.i out'.1, U.i out'.2] = [.i f', .i out''.1, .i out''.2] ∧ n' + f' = 24 ∧ Upto out'' (meetS s t) (0, 0) f' := fun out' hu' =>
      ⟨n - 1, by omega, f + 1, out', by rw [add_i64 f (by omega)], by omega, hu'⟩
    refine .callV (c_refGet s f h) (fun _ => trivial) (.callV (c_refGet t f h') (fun _ => trivial) (.ite (fun h4 => .callV (c_refGet s f h) (fun _ => trivial) (.callV (c_put out f (getV s f) hu.1 (by omega)) (fun _ => trivial) (.again rfl (hstep (putS out f (getV s f)) ?_)))) (fun h4 => .again rfl (hstep out ?_)))) <;> ((try simp only [BT.eval, IT.eval, SV.den, SV.dens, Env.int, Env.bool, Env.val, Env.ptr, letsOf, letU, snd, List.flatMap_cons, List.flatMap_nil, List.cons_append, List.nil_append, List.append_assoc, List.getElem?_cons_zero, List.getElem?_cons_succ] at h4); (try simp only [cm, cond_true, cond_false, pick_or, pick_and, Bool.or_eq_true, Bool.and_eq_true, Bool.or_eq_false_iff, Bool.and_eq_false_iff, Bool.not_eq_true', Bool.not_eq_false', decide_eq_true_eq, decide_eq_false_iff_not, beq_iff_eq, beq_eq_false_iff_ne, bne_iff_ne, bne_eq_false_iff_eq, ge_iff_le, gt_iff_lt, Int.not_lt, Int.not_le] at h4))
    · exact hu.put (by omega) (by rw [b1, h4]; simp) (by rw [b2, h4]; simp)
    · exact hu.keep (by rw [b1, beq_eq_false_iff_ne.2 h4]; simp) (by rw [b2, beq_eq_false_iff_ne.2 h4]; simp)
  · have : f = 24 := by omega
    subst this
    have hb : (meetS s t).1 < 2 ^ 24 ∧ (meetS s t).2 < 2 ^ 24 := by
      unfold meetS
      split
      · rename_i e; simp only [Bool.and_eq_true] at e
        have v := (valid_iff s).1 e.1
        exact ⟨Nat.lt_of_le_of_lt Nat.and_le_left v.2.1, Nat.lt_of_le_of_lt Nat.and_le_left v.2.2⟩
      · exact ⟨by simp, by simp⟩
    rw [← hu.end (fun g hg => by rw [bit_big hb.1 hg]; simp) (fun g hg => by rw [bit_big hb.2 hg]; simp)]
    rfl
theorem diffS_lt (s t : Snd) : diffS s t < 2 ^ 24 := by
  unfold diffS
  split
  · rename_i e; simp only [Bool.and_eq_true] at e
    have v := (valid_iff s).1 e.1; have v' := (valid_iff t).1 e.2
    exact Nat.or_lt_two_pow (Nat.xor_lt_two_pow v.2.1 v'.2.1) (Nat.xor_lt_two_pow v.2.2 v'.2.2)
  · simp
theorem diffS_bit {s t : Snd} (hs : valid s = true) (ht : valid t = true) {f : Nat} (hf : f < 24) : (diffS s t).testBit f = (getV s f != getV t f) := by
  have g1 := getV_one hs hf; have g2 := getV_one ht hf
  simp only [diffS, hs, ht, Bool.and_self, if_true, Nat.testBit_or, Nat.testBit_xor, g1.1, g1.2, g2.1, g2.2]
  rcases getV_range s f with r1 | r1 | r1 <;> rcases getV_range t f with r2 | r2 | r2 <;> simp [r1, r2]
theorem c_diff (s t : Snd) (h : Sok s) (h' : Sok t) : Ret Tryd.prog n_feats_Diff [snd s, snd t] (.int .u32 (diffS s t)) := by
  refine Fn.of S_feats_Diff mx [.i s.1, .i s.2, .i t.1, .i t.2] rfl rfl fun c _ => .alloc fun _ => .alloc fun _ => .callV (c_valid s h) (fun _ => trivial) ?_
  refine .ite (fun h1 => .ret rfl ?_) (fun h1 => .callV (c_valid t h') (fun _ => trivial) (.ite (fun h2 => .ret rfl ?_) (fun h2 => .ret rfl ?_))) <;> ((try simp only [BT.eval, IT.eval, SV.den, SV.dens, Env.int, Env.bool, Env.val, Env.ptr, letsOf, letU, snd, List.flatMap_cons, List.flatMap_nil, List.cons_append, List.nil_append, List.append_assoc, List.getElem?_cons_zero, List.getElem?_cons_succ] at h1); (try simp only [cm, cond_true, cond_false, pick_or, pick_and, Bool.or_eq_true, Bool.and_eq_true, Bool.or_eq_false_iff, Bool.and_eq_false_iff, Bool.not_eq_true', Bool.not_eq_false', decide_eq_true_eq, decide_eq_false_iff_not, beq_iff_eq, beq_eq_false_iff_ne, bne_iff_ne, bne_eq_false_iff_eq, ge_iff_le, gt_iff_lt, Int.not_lt, Int.not_le] at h1))
  · simp [diffS, h1]; rfl
  · ((try simp only [BT.eval, IT.eval, SV.den, SV.dens, Env.int, Env.bool, Env.val, Env.ptr, letsOf, letU, snd, List.flatMap_cons, List.flatMap_nil, List.cons_append, List.nil_append, List.append_assoc, List.getElem?_cons_zero, List.getElem?_cons_succ] at h2); (try simp only [cm, cond_true, cond_false, pick_or, pick_and, Bool.or_eq_true, Bool.and_eq_true, Bool.or_eq_false_iff, Bool.and_eq_false_iff, Bool.not_eq_true', Bool.not_eq_false', decide_eq_true_eq, decide_eq_false_iff_not, beq_iff_eq, beq_eq_false_iff_ne, bne_iff_ne, bne_eq_false_iff_eq, ge_iff_le, gt_iff_lt, Int.not_lt, Int.not_le] at h2)); simp [diffS, h2]; rfl
  · ((try simp only [BT.eval, IT.eval, SV.den, SV.dens, Env.int, Env.bool, Env.val, Env.ptr, letsOf, letU, snd, List.flatMap_cons, List.flatMap_nil, List.cons_append, List.nil_append, List.append_assoc, List.getElem?_cons_zero, List.getElem?_cons_succ] at h2); (try simp only [cm, cond_true, cond_false, pick_or, pick_and, Bool.or_eq_true, Bool.and_eq_true, Bool.or_eq_false_iff, Bool.and_eq_false_iff, Bool.not_eq_true', Bool.not_eq_false', decide_eq_true_eq, decide_eq_false_iff_not, beq_iff_eq, beq_eq_false_iff_ne, bne_iff_ne, bne_eq_false_iff_eq, ge_iff_le, gt_iff_lt, Int.not_lt, Int.not_le] at h2))
    show Value.int .u32 (ar .or .u32 (ar .xor .u32 (s.1 : Int) t.1) (ar .xor .u32 (s.2 : Int) t.2)) = _
    rw [ar_xor _ _ h.1 h'.1, ar_xor _ _ h.2 h'.2, ar_or _ _ (Nat.xor_lt_two_pow h.1 h'.1) (Nat.xor_lt_two_pow h.2 h'.2)]; simp [diffS, h1, h2]
theorem c_refDiff (s t : Snd) (h : Sok s) (h' : Sok t) : Ret Tryd.prog n_ref01_Diff [snd s, snd t] (.int .u32 (diffS s t)) := by
  refine Fn.of S_ref01_Diff mx [.i s.1, .i s.2, .i t.1, .i t.2] rfl rfl fun c _ => .alloc fun _ => .alloc fun _ => .callV (c_refValid s h) (fun _ => trivial) ?_
  refine .ite (fun h1 => .ret rfl ?_) (fun h1 => .callV (c_refValid t h') (fun _ => trivial) (.ite (fun h2 => .ret rfl ?_) (fun h2 => ?_))) <;> ((try simp only [BT.eval, IT.eval, SV.den, SV.dens, Env.int, Env.bool, Env.val, Env.ptr, letsOf, letU, snd, List.flatMap_cons, List.flatMap_nil, List.cons_append, List.nil_append, List.append_assoc, List.getElem?_cons_zero, List.getElem?_cons_succ] at h1); (try simp only [cm, cond_true, cond_false, pick_or, pick_and, Bool.or_eq_true, Bool.and_eq_true, Bool.or_eq_false_iff, Bool.and_eq_false_iff, Bool.not_eq_true', Bool.not_eq_false', decide_eq_true_eq, decide_eq_false_iff_not, beq_iff_eq, beq_eq_false_iff_ne, bne_iff_ne, bne_eq_false_iff_eq, ge_iff_le, gt_iff_lt, Int.not_lt, Int.not_le] at h1))
  · simp [diffS, h1]; rfl
  · ((try simp only [BT.eval, IT.eval, SV.den, SV.dens, Env.int, Env.bool, Env.val, Env.ptr, letsOf, letU, snd, List.flatMap_cons, List.flatMap_nil, List.cons_append, List.nil_append, List.append_assoc, List.getElem?_cons_zero, List.getElem?_cons_succ] at h2); (try simp only [cm, cond_true, cond_false, pick_or, pick_and, Bool.or_eq_true, Bool.and_eq_true, Bool.or_eq_false_iff, Bool.and_eq_false_iff, Bool.not_eq_true', Bool.not_eq_false', decide_eq_true_eq, decide_eq_false_iff_not, beq_iff_eq, beq_eq_false_iff_ne, bne_iff_ne, bne_eq_false_iff_eq, ge_iff_le, gt_iff_lt, Int.not_lt, Int.not_le] at h2)); simp [diffS, h2]; rfl
  ((try simp only [BT.eval, IT.eval, SV.den, SV.dens, Env.int, Env.bool, Env.val, Env.ptr, letsOf, letU, snd, List.flatMap_cons, List.flatMap_nil, List.cons_append, List.nil_append, List.append_assoc, List.getElem?_cons_zero, List.getElem?_cons_succ] at h2); (try simp only [cm, cond_true, cond_false, pick_or, pick_and, Bool.or_eq_true, Bool.and_eq_true, Bool.or_eq_false_iff, Bool.and_eq_false_iff, Bool.not_eq_true', Bool.not_eq_false', decide_eq_true_eq, decide_eq_false_iff_not, beq_iff_eq, beq_eq_false_iff_ne, bne_iff_ne, bne_eq_false_iff_eq, ge_iff_le, gt_iff_lt, Int.not_lt, Int.not_le] at h2))
  refine .loop (fun n us _ => ∃ (f out : Nat), us = [.i out, .i f] ∧ n + f = 24 ∧ out < 2 ^ 32 ∧ ∀ g, out.testBit g = (decide (g < f) && (diffS s t).testBit g)) 24 ⟨0, 0, rfl, rfl, by omega, by simp⟩ ?_
  rintro n _ m _ ⟨f, out, rfl, hn, ho, hu⟩
  refine .ite (fun h3 => ?_) (fun h3 => .ret rfl ?_) <;> ((try simp only [BT.eval, IT.eval, SV.den, SV.dens, Env.int, Env.bool, Env.val, Env.ptr, letsOf, letU, snd, List.flatMap_cons, List.flatMap_nil, List.cons_append, List.nil_append, List.append_assoc, List.getElem?_cons_zero, List.getElem?_cons_succ] at h3); (try simp only [cm, cond_true, cond_false, pick_or, pick_and, Bool.or_eq_true, Bool.and_eq_true, Bool.or_eq_false_iff, Bool.and_eq_false_iff, Bool.not_eq_true', Bool.not_eq_false', decide_eq_true_eq, decide_eq_false_iff_not, beq_iff_eq, beq_eq_false_iff_ne, bne_iff_ne, bne_eq_false_iff_eq, ge_iff_le, gt_iff_lt, Int.not_lt, Int.not_le] at h3))
  · have hf : f < 24 := by omega
    have hb : ar .shl .u32 1 (f : Int) = ((2 ^ f : Nat) : Int) := ar_shl1 f (by omega)
    have h2f := pow_lt32 (f := f) (by omega)
    have hstep : ∀ (x : Int) (out' : Nat), x = out' → out' < 2 ^ 32 → (∀ g, out'.testBit g = (decide (g < f + 1) && (diffS s t).testBit g)) → ∃ n', n' < n ∧ ∃ (f' out'' : Nat), [U.i x, U.i (ar .add .i64 (f : Int) 1)] = [.i out'', .i f'] ∧ n' + f' = 24 ∧ out'' < 2 ^ 32 ∧ ∀ g, out''.testBit g = (decide (g < f') && (diffS s t).testBit g) := fun x out' hx ho' hu' =>
      ⟨n - 1, by omega, f + 1, out', by rw [add_i64 f (by omega), hx], by omega, ho', hu'⟩
    refine .callV (c_refGet s f h) (fun _ => trivial) (.callV (c_refGet t f h') (fun _ => trivial) (.ite (fun h4 => .chk (by ((try simp only [BT.eval, IT.eval, SV.den, SV.dens, Env.int, Env.bool, Env.val, Env.ptr, letsOf, letU, snd, List.flatMap_cons, List.flatMap_nil, List.cons_append, List.nil_append, List.append_assoc, List.getElem?_cons_zero, List.getElem?_cons_succ]); (try simp only [cm, cond_true, cond_false, pick_or, pick_and, Bool.or_eq_true, Bool.and_eq_true, Bool.or_eq_false_iff, Bool.and_eq_false_iff, Bool.not_eq_true', Bool.not_eq_false', decide_eq_true_eq, decide_eq_false_iff_not, beq_iff_eq, beq_eq_false_iff_ne, bne_iff_ne, bne_eq_false_iff_eq, ge_iff_le, gt_iff_lt, Int.not_lt, Int.not_le])); omega) (.again rfl (hstep _ (out ||| 2 ^ f) ?_ (Nat.or_lt_two_pow ho h2f) fun g => ?_))) (fun h4 => .again rfl (hstep _ out rfl ho fun g => ?_)))) <;> ((try simp only [BT.eval, IT.eval, SV.den, SV.dens, Env.int, Env.bool, Env.val, Env.ptr, letsOf, letU, snd, List.flatMap_cons, List.flatMap_nil, List.cons_append, List.nil_append, List.append_assoc, List.getElem?_cons_zero, List.getElem?_cons_succ] at h4); (try simp only [cm, cond_true, cond_false, pick_or, pick_and, Bool.or_eq_true, Bool.and_eq_true, Bool.or_eq_false_iff, Bool.and_eq_false_iff, Bool.not_eq_true', Bool.not_eq_false', decide_eq_true_eq, decide_eq_false_iff_not, beq_iff_eq, beq_eq_false_iff_ne, bne_iff_ne, bne_eq_false_iff_eq, ge_iff_le, gt_iff_lt, Int.not_lt, Int.not_le] at h4))
    · show ar .or .u32 (out : Int) (ar .shl .u32 1 (f : Int)) = _
      rw [hb]; exact ar_or _ _ ho h2f
    · rw [Nat.testBit_or, Nat.testBit_two_pow, hu g]
      by_cases e : f = g
      · subst e; rw [diffS_bit h1 h2 hf]; simp [h4]
      · by_cases e2 : g < f
        · have : g < f + 1 := by omega
          simp [e, e2, this]
        · have : ¬ g < f + 1 := by omega
          simp [e, e2, this]
    · rw [hu g]
      by_cases e : f = g
      · subst e; rw [diffS_bit h1 h2 hf]; simp [h4]
      · by_cases e2 : g < f
        · have : g < f + 1 := by omega
          simp [e2, this]
        · have : ¬ g < f + 1 := by omega
          simp [e2, this]
  · have : f = 24 := by omega
    subst this
    have : out = diffS s t := Nat.eq_of_testBit_eq fun g => by
      rw [hu g]
      by_cases e : g < 24
      · simp [e]
      · rw [bit_big (diffS_lt s t) (by omega)]; simp
    rw [← this]; rfl
theorem c_take (s t : Snd) (x : Nat) (h : Sok s) (h' : Sok t) (hx : x < 2 ^ 32) : Ret Tryd.prog n_feats_Take [snd s, snd t, .int .u32 x] (.tuple #[snd (takeS s t x).1, .int .i64 (takeS s t x).2]) := by
  refine Fn.of S_feats_Take mx [.i s.1, .i s.2, .i t.1, .i t.2, .i x] rfl rfl fun c _ => .alloc fun _ => .alloc fun _ => .alloc fun _ => .callV (c_valid s h) (fun _ => trivial) ?_
  refine .ite (fun h1 => .ret rfl ?_) (fun h1 => .callV (c_valid t h') (fun _ => trivial) (.ite (fun h2 => .ret rfl ?_) (fun h2 => .ite (fun h3 => .ret rfl ?_) (fun h3 => .callV (c_mix s t x h h' hx) (fun _ => trivial) (.ret rfl ?_))))) <;> ((try simp only [BT.eval, IT.eval, SV.den, SV.dens, Env.int, Env.bool, Env.val, Env.ptr, letsOf, letU, snd, List.flatMap_cons, List.flatMap_nil, List.cons_append, List.nil_append, List.append_assoc, List.getElem?_cons_zero, List.getElem?_cons_succ] at h1); (try simp only [cm, cond_true, cond_false, pick_or, pick_and, Bool.or_eq_true, Bool.and_eq_true, Bool.or_eq_false_iff, Bool.and_eq_false_iff, Bool.not_eq_true', Bool.not_eq_false', decide_eq_true_eq, decide_eq_false_iff_not, beq_iff_eq, beq_eq_false_iff_ne, bne_iff_ne, bne_eq_false_iff_eq, ge_iff_le, gt_iff_lt, Int.not_lt, Int.not_le] at h1))
  · simp [takeS, h1]; rfl
  · ((try simp only [BT.eval, IT.eval, SV.den, SV.dens, Env.int, Env.bool, Env.val, Env.ptr, letsOf, letU, snd, List.flatMap_cons, List.flatMap_nil, List.cons_append, List.nil_append, List.append_assoc, List.getElem?_cons_zero, List.getElem?_cons_succ] at h2); (try simp only [cm, cond_true, cond_false, pick_or, pick_and, Bool.or_eq_true, Bool.and_eq_true, Bool.or_eq_false_iff, Bool.and_eq_false_iff, Bool.not_eq_true', Bool.not_eq_false', decide_eq_true_eq, decide_eq_false_iff_not, beq_iff_eq, beq_eq_false_iff_ne, bne_iff_ne, bne_eq_false_iff_eq, ge_iff_le, gt_iff_lt, Int.not_lt, Int.not_le] at h2)); simp [takeS, h2]; rfl
  · ((try simp only [BT.eval, IT.eval, SV.den, SV.dens, Env.int, Env.bool, Env.val, Env.ptr, letsOf, letU, snd, List.flatMap_cons, List.flatMap_nil, List.cons_append, List.nil_append, List.append_assoc, List.getElem?_cons_zero, List.getElem?_cons_succ] at h2 h3); (try simp only [cm, cond_true, cond_false, pick_or, pick_and, Bool.or_eq_true, Bool.and_eq_true, Bool.or_eq_false_iff, Bool.and_eq_false_iff, Bool.not_eq_true', Bool.not_eq_false', decide_eq_true_eq, decide_eq_false_iff_not, beq_iff_eq, beq_eq_false_iff_ne, bne_iff_ne, bne_eq_false_iff_eq, ge_iff_le, gt_iff_lt, Int.not_lt, Int.not_le] at h2 h3))
    have : x > 16777215 := by omega
    simp [takeS, h1, h2, this]; rfl
  · ((try simp only [BT.eval, IT.eval, SV.den, SV.dens, Env.int, Env.bool, Env.val, Env.ptr, letsOf, letU, snd, List.flatMap_cons, List.flatMap_nil, List.cons_append, List.nil_append, List.append_assoc, List.getElem?_cons_zero, List.getElem?_cons_succ] at h2 h3); (try simp only [cm, cond_true, cond_false, pick_or, pick_and, Bool.or_eq_true, Bool.and_eq_true, Bool.or_eq_false_iff, Bool.and_eq_false_iff, Bool.not_eq_true', Bool.not_eq_false', decide_eq_true_eq, decide_eq_false_iff_not, beq_iff_eq, beq_eq_false_iff_ne, bne_iff_ne, bne_eq_false_iff_eq, ge_iff_le, gt_iff_lt, Int.not_lt, Int.not_le] at h2 h3))
    have : ¬ x > 16777215 := by omega
    simp only [takeS, h1, h2, this]; rfl
theorem c_refTake (s t : Snd) (x : Nat) (h : Sok s) (h' : Sok t) (hx : x < 2 ^ 32) : Ret Tryd.prog n_ref01_Take [snd s, snd t, .int .u32 x] (.tuple #[snd (takeS s t x).1, .int .i64 (takeS s t x).2]) := by
  refine Fn.of S_ref01_Take mx [.i s.1, .i s.2, .i t.1, .i t.2, .i x] rfl rfl fun c _ => .alloc fun _ => .alloc fun _ => .alloc fun _ => .callV (c_refValid s h) (fun _ => trivial) ?_
  refine .ite (fun h1 => .ret rfl ?_) (fun h1 => .callV (c_refValid t h') (fun _ => trivial) (.ite (fun h2 => .ret rfl ?_) (fun h2 => .ite (fun h3 => .ret rfl ?_) (fun h3 => .alloc fun _ => ?_)))) <;> ((try simp only [BT.eval, IT.eval, SV.den, SV.dens, Env.int, Env.bool, Env.val, Env.ptr, letsOf, letU, snd, List.flatMap_cons, List.flatMap_nil, List.cons_append, List.nil_append, List.append_assoc, List.getElem?_cons_zero, List.getElem?_cons_succ] at h1); (try simp only [cm, cond_true, cond_false, pick_or, pick_and, Bool.or_eq_true, Bool.and_eq_true, Bool.or_eq_false_iff, Bool.and_eq_false_iff, Bool.not_eq_true', Bool.not_eq_false', decide_eq_true_eq, decide_eq_false_iff_not, beq_iff_eq, beq_eq_false_iff_ne, bne_iff_ne, bne_eq_false_iff_eq, ge_iff_le, gt_iff_lt, Int.not_lt, Int.not_le] at h1))
  · simp [takeS, h1]; rfl
  · ((try simp only [BT.eval, IT.eval, SV.den, SV.dens, Env.int, Env.bool, Env.val, Env.ptr, letsOf, letU, snd, List.flatMap_cons, List.flatMap_nil, List.cons_append, List.nil_append, List.append_assoc, List.getElem?_cons_zero, List.getElem?_cons_succ] at h2); (try simp only [cm, cond_true, cond_false, pick_or, pick_and, Bool.or_eq_true, Bool.and_eq_true, Bool.or_eq_false_iff, Bool.and_eq_false_iff, Bool.not_eq_true', Bool.not_eq_false', decide_eq_true_eq, decide_eq_false_iff_not, beq_iff_eq, beq_eq_false_iff_ne, bne_iff_ne, bne_eq_false_iff_eq, ge_iff_le, gt_iff_lt, Int.not_lt, Int.not_le] at h2)); simp [takeS, h2]; rfl
  · ((try simp only [BT.eval, IT.eval, SV.den, SV.dens, Env.int, Env.bool, Env.val, Env.ptr, letsOf, letU, snd, List.flatMap_cons, List.flatMap_nil, List.cons_append, List.nil_append, List.append_assoc, List.getElem?_cons_zero, List.getElem?_cons_succ] at h2 h3); (try simp only [cm, cond_true, cond_false, pick_or, pick_and, Bool.or_eq_true, Bool.and_eq_true, Bool.or_eq_false_iff, Bool.and_eq_false_iff, Bool.not_eq_true', Bool.not_eq_false', decide_eq_true_eq, decide_eq_false_iff_not, beq_iff_eq, beq_eq_false_iff_ne, bne_iff_ne, bne_eq_false_iff_eq, ge_iff_le, gt_iff_lt, Int.not_lt, Int.not_le] at h2 h3))
    have : x > 16777215 := by omega
    simp [takeS, h1, h2, this]; rfl
  ((try simp only [BT.eval, IT.eval, SV.den, SV.dens, Env.int, Env.bool, Env.val, Env.ptr, letsOf, letU, snd, List.flatMap_cons, List.flatMap_nil, List.cons_append, List.nil_append, List.append_assoc, List.getElem?_cons_zero, List.getElem?_cons_succ] at h2 h3); (try simp only [cm, cond_true, cond_false, pick_or, pick_and, Bool.or_eq_true, Bool.and_eq_true, Bool.or_eq_false_iff, Bool.and_eq_false_iff, Bool.not_eq_true', Bool.not_eq_false', decide_eq_true_eq, decide_eq_false_iff_not, beq_iff_eq, beq_eq_false_iff_ne, bne_iff_ne, bne_eq_false_iff_eq, ge_iff_le, gt_iff_lt, Int.not_lt, Int.not_le] at h2 h3))
  have hx24 : ¬ x > 16777215 := by omega
  have vs := (valid_iff s).1 h1
  refine .loop (fun n us _ => ∃ (f : Nat) (out : Snd), us = [.i f, .i out.1, .i out.2] ∧ n + f = 24 ∧ Upto out (mixS s t x) s f) 24 ⟨0, s, rfl, rfl, Upto.start h⟩ ?_
  rintro n _ m _ ⟨f, out, rfl, hn, hu⟩
  refine .ite (fun h4 => ?_) (fun h4 => .ret rfl ?_) <;> ((try simp only [BT.eval, IT.eval, SV.den, SV.dens, Env.int, Env.bool, Env.val, Env.ptr, letsOf, letU, snd, List.flatMap_cons, List.flatMap_nil, List.cons_append, List.nil_append, List.append_assoc, List.getElem?_cons_zero, List.getElem?_cons_succ] at h4); (try simp only [cm, cond_true, cond_false, pick_or, pick_and, Bool.or_eq_true, Bool.and_eq_true, Bool.or_eq_false_iff, Bool.and_eq_false_iff, Bool.not_eq_true', Bool.not_eq_false', decide_eq_true_eq, decide_eq_false_iff_not, beq_iff_eq, beq_eq_false_iff_ne, bne_iff_ne, bne_eq_false_iff_eq, ge_iff_le, gt_iff_lt, Int.not_lt, Int.not_le] at h4))
  · have hf : f < 24 := by omega
    obtain ⟨b1, b2⟩ := mixS_bit (t := t) h x f
    have g2 := getV_one h2 hf
    have hstep : ∀ out' : Snd, Upto out' (mixS s t x) s (f + 1) → ∃ n', n' < n ∧ ∃ (f' : Nat) (out'' : Snd), [U.i (ar .add .i64 (f : Int) 1), U.i out'.1, U.i out'.2] = [.i f', .i out''.1, .i out''.2] ∧ n' + f' = 24 ∧ Upto out'' (mixS s t x) s f' := fun out' hu' =>
      ⟨n - 1, by omega, f + 1, out', by rw [add_i64 f (by omega)], by omega, hu'⟩
    refine .chk (by ((try simp only [BT.eval, IT.eval, SV.den, SV.dens, Env.int, Env.bool, Env.val, Env.ptr, letsOf, letU, snd, List.flatMap_cons, List.flatMap_nil, List.cons_append, List.nil_append, List.append_assoc, List.getElem?_cons_zero, List.getElem?_cons_succ]); (try simp only [cm, cond_true, cond_false, pick_or, pick_and, Bool.or_eq_true, Bool.and_eq_true, Bool.or_eq_false_iff, Bool.and_eq_false_iff, Bool.not_eq_true', Bool.not_eq_false', decide_eq_true_eq, decide_eq_false_iff_not, beq_iff_eq, beq_eq_false_iff_ne, bne_iff_ne, bne_eq_false_iff_eq, ge_iff_le, gt_iff_lt, Int.not_lt, Int.not_le])); omega) (.ite (fun h5 => .callV (c_refGet t f h') (fun _ => trivial) (.callV (c_put out f (getV t f) hu.1 (by omega)) (fun _ => trivial) (.again rfl (hstep (putS out f (getV t f)) ?_)))) (fun h5 => .again rfl (hstep out ?_)))
    all_goals
      replace h5 : cm .eql (ar .and .u32 (ar .shr .u32 (x : Int) (f : Int)) 1) 1 = _ := h5
      rw [bit_eq _ f hx (by omega)] at h5
      rw [h5] at b1 b2
    · exact hu.put (by omega) (by rw [b1]; exact g2.1) (by rw [b2]; exact g2.2)
    · exact hu.keep (by simpa using b1) (by simpa using b2)
  · have : f = 24 := by omega
    subst this
    have hb : ∀ g, 24 ≤ g → x.testBit g = false := fun g hg => bit_big (n := 24) (by omega) hg
    have ho : out = mixS s t x := hu.end (fun g hg => by rw [(mixS_bit h x g).1, hb g hg]; simp) (fun g hg => by rw [(mixS_bit h x g).2, hb g hg]; simp)
    subst ho
    simp only [takeS, h1, h2, hx24]; rfl
theorem c_has (s : Snd) (h : Sok s) : Ret Tryd.prog n_feats_has [snd s] (.int .u32 ((s.1 ||| s.2 : Nat) : Int)) :=
  Fn.of S_feats_has mx [.i s.1, .i s.2] rfl rfl fun c _ => .alloc fun _ => .ret rfl (by show Value.int .u32 (ar .or .u32 (s.1 : Int) s.2) = _; rw [ar_or _ _ h.1 h.2])
theorem c_change (s t : Snd) (x : Nat) (h : Sok s) (h' : Sok t) (hx : x < 2 ^ 32) : Ret Tryd.prog n_feats_Change [snd s, .int .u32 x, snd t] (.tuple #[snd (changeS s x t).1, .int .i64 (changeS s x t).2]) := by
  have ho := Nat.or_lt_two_pow h'.1 h'.2
  have ea : ar .and .u32 (x : Int) ((t.1 ||| t.2 : Nat) : Int) = _ := ar_and x _ hx ho
  have eo : ar .or .u32 (x : Int) ((t.1 ||| t.2 : Nat) : Int) = _ := ar_or x _ hx ho
  have cx : Ret Tryd.prog n_feats_mix [snd s, snd t, .int .u32 (ar .or .u32 (x : Int) ((t.1 ||| t.2 : Nat) : Int))] (snd (mixS s t (x ||| (t.1 ||| t.2)))) := by
    rw [eo]; exact c_mix s t _ h h' (Nat.or_lt_two_pow hx ho)
  refine Fn.of S_feats_Change mx [.i s.1, .i s.2, .i x, .i t.1, .i t.2] rfl rfl fun c _ => .alloc fun _ => .alloc fun _ => .alloc fun _ => .callV (c_valid s h) (fun _ => trivial) ?_
  refine .ite (fun h1 => .ret rfl ?_) (fun h1 => .callV (c_valid t h') (fun _ => trivial) (.ite (fun h2 => .ret rfl ?_) (fun h2 => .ite (fun h3 => .ret rfl ?_) (fun h3 => .callV (c_has t h') (fun _ => trivial) (.ite (fun h4 => .ret rfl ?_) (fun h4 => .callV (c_has t h') (fun _ => trivial) (.callV cx (fun _ => trivial) (.ret rfl ?_)))))))) <;> ((try simp only [BT.eval, IT.eval, SV.den, SV.dens, Env.int, Env.bool, Env.val, Env.ptr, letsOf, letU, snd, List.flatMap_cons, List.flatMap_nil, List.cons_append, List.nil_append, List.append_assoc, List.getElem?_cons_zero, List.getElem?_cons_succ] at h1); (try simp only [cm, cond_true, cond_false, pick_or, pick_and, Bool.or_eq_true, Bool.and_eq_true, Bool.or_eq_false_iff, Bool.and_eq_false_iff, Bool.not_eq_true', Bool.not_eq_false', decide_eq_true_eq, decide_eq_false_iff_not, beq_iff_eq, beq_eq_false_iff_ne, bne_iff_ne, bne_eq_false_iff_eq, ge_iff_le, gt_iff_lt, Int.not_lt, Int.not_le] at h1))
  · simp [changeS, h1]; rfl
  · ((try simp only [BT.eval, IT.eval, SV.den, SV.dens, Env.int, Env.bool, Env.val, Env.ptr, letsOf, letU, snd, List.flatMap_cons, List.flatMap_nil, List.cons_append, List.nil_append, List.append_assoc, List.getElem?_cons_zero, List.getElem?_cons_succ] at h2); (try simp only [cm, cond_true, cond_false, pick_or, pick_and, Bool.or_eq_true, Bool.and_eq_true, Bool.or_eq_false_iff, Bool.and_eq_false_iff, Bool.not_eq_true', Bool.not_eq_false', decide_eq_true_eq, decide_eq_false_iff_not, beq_iff_eq, beq_eq_false_iff_ne, bne_iff_ne, bne_eq_false_iff_eq, ge_iff_le, gt_iff_lt, Int.not_lt, Int.not_le] at h2)); simp [changeS, h2]; rfl
  · ((try simp only [BT.eval, IT.eval, SV.den, SV.dens, Env.int, Env.bool, Env.val, Env.ptr, letsOf, letU, snd, List.flatMap_cons, List.flatMap_nil, List.cons_append, List.nil_append, List.append_assoc, List.getElem?_cons_zero, List.getElem?_cons_succ] at h2 h3); (try simp only [cm, cond_true, cond_false, pick_or, pick_and, Bool.or_eq_true, Bool.and_eq_true, Bool.or_eq_false_iff, Bool.and_eq_false_iff, Bool.not_eq_true', Bool.not_eq_false', decide_eq_true_eq, decide_eq_false_iff_not, beq_iff_eq, beq_eq_false_iff_ne, bne_iff_ne, bne_eq_false_iff_eq, ge_iff_le, gt_iff_lt, Int.not_lt, Int.not_le] at h2 h3))
    have : x > 16777215 := by omega
    simp [changeS, h1, h2, this]; rfl
  · ((try simp only [BT.eval, IT.eval, SV.den, SV.dens, Env.int, Env.bool, Env.val, Env.ptr, letsOf, letU, snd, List.flatMap_cons, List.flatMap_nil, List.cons_append, List.nil_append, List.append_assoc, List.getElem?_cons_zero, List.getElem?_cons_succ] at h2 h3); (try simp only [cm, cond_true, cond_false, pick_or, pick_and, Bool.or_eq_true, Bool.and_eq_true, Bool.or_eq_false_iff, Bool.and_eq_false_iff, Bool.not_eq_true', Bool.not_eq_false', decide_eq_true_eq, decide_eq_false_iff_not, beq_iff_eq, beq_eq_false_iff_ne, bne_iff_ne, bne_eq_false_iff_eq, ge_iff_le, gt_iff_lt, Int.not_lt, Int.not_le] at h2 h3))
    replace h4 : (ar .and .u32 (x : Int) ((t.1 ||| t.2 : Nat) : Int) != 0) = true := h4
    rw [ea] at h4
    have : x &&& (t.1 ||| t.2) ≠ 0 := by simpa using h4
    unfold changeS; rw [if_neg (by simp [h1, h2]), if_pos (.inr this)]; rfl
  · ((try simp only [BT.eval, IT.eval, SV.den, SV.dens, Env.int, Env.bool, Env.val, Env.ptr, letsOf, letU, snd, List.flatMap_cons, List.flatMap_nil, List.cons_append, List.nil_append, List.append_assoc, List.getElem?_cons_zero, List.getElem?_cons_succ] at h2 h3); (try simp only [cm, cond_true, cond_false, pick_or, pick_and, Bool.or_eq_true, Bool.and_eq_true, Bool.or_eq_false_iff, Bool.and_eq_false_iff, Bool.not_eq_true', Bool.not_eq_false', decide_eq_true_eq, decide_eq_false_iff_not, beq_iff_eq, beq_eq_false_iff_ne, bne_iff_ne, bne_eq_false_iff_eq, ge_iff_le, gt_iff_lt, Int.not_lt, Int.not_le] at h2 h3))
    replace h4 : (ar .and .u32 (x : Int) ((t.1 ||| t.2 : Nat) : Int) != 0) = false := h4
    rw [ea] at h4
    have : x &&& (t.1 ||| t.2) = 0 := by simpa using h4
    have h3' : ¬ x > 16777215 := by omega
    simp only [changeS, h1, h2, h3', this]; rfl
theorem c_refChange (s t : Snd) (x : Nat) (h : Sok s) (h' : Sok t) (hx : x < 2 ^ 32) : Ret Tryd.prog n_ref01_Change [snd s, .int .u32 x, snd t] (.tuple #[snd (changeS s x t).1, .int .i64 (changeS s x t).2]) := by
  have ho := Nat.or_lt_two_pow h'.1 h'.2
  have eh : ar .or .u32 (t.1 : Int) (t.2 : Int) = ((t.1 ||| t.2 : Nat) : Int) := ar_or _ _ h'.1 h'.2
  have ea : ar .and .u32 (x : Int) ((t.1 ||| t.2 : Nat) : Int) = _ := ar_and x _ hx ho
  refine Fn.of S_ref01_Change mx [.i s.1, .i s.2, .i x, .i t.1, .i t.2] rfl rfl fun c _ => .alloc fun _ => .alloc fun _ => .alloc fun _ => .callV (c_refValid s h) (fun _ => trivial) ?_
  refine .ite (fun h1 => .ret rfl ?_) (fun h1 => .callV (c_refValid t h') (fun _ => trivial) (.ite (fun h2 => .ret rfl ?_) (fun h2 => .ite (fun h3 => .ret rfl ?_) (fun h3 => .alloc fun _ => ?_)))) <;> ((try simp only [BT.eval, IT.eval, SV.den, SV.dens, Env.int, Env.bool, Env.val, Env.ptr, letsOf, letU, snd, List.flatMap_cons, List.flatMap_nil, List.cons_append, List.nil_append, List.append_assoc, List.getElem?_cons_zero, List.getElem?_cons_succ] at h1); (try simp only [cm, cond_true, cond_false, pick_or, pick_and, Bool.or_eq_true, Bool.and_eq_true, Bool.or_eq_false_iff, Bool.and_eq_false_iff, Bool.not_eq_true', Bool.not_eq_false', decide_eq_true_eq, decide_eq_false_iff_not, beq_iff_eq, beq_eq_false_iff_ne, bne_iff_ne, bne_eq_false_iff_eq, ge_iff_le, gt_iff_lt, Int.not_lt, Int.not_le] at h1))
  · simp [changeS, h1]; rfl
  · ((try simp only [BT.eval, IT.eval, SV.den, SV.dens, Env.int, Env.bool, Env.val, Env.ptr, letsOf, letU, snd, List.flatMap_cons, List.flatMap_nil, List.cons_append, List.nil_append, List.append_assoc, List.getElem?_cons_zero, List.getElem?_cons_succ] at h2); (try simp only [cm, cond_true, cond_false, pick_or, pick_and, Bool.or_eq_true, Bool.and_eq_true, Bool.or_eq_false_iff, Bool.and_eq_false_iff, Bool.not_eq_true', Bool.not_eq_false', decide_eq_true_eq, decide_eq_false_iff_not, beq_iff_eq, beq_eq_false_iff_ne, bne_iff_ne, bne_eq_false_iff_eq, ge_iff_le, gt_iff_lt, Int.not_lt, Int.not_le] at h2)); simp [changeS, h2]; rfl
  · ((try simp only [BT.eval, IT.eval, SV.den, SV.dens, Env.int, Env.bool, Env.val, Env.ptr, letsOf, letU, snd, List.flatMap_cons, List.flatMap_nil, List.cons_append, List.nil_append, List.append_assoc, List.getElem?_cons_zero, List.getElem?_cons_succ] at h2); (try simp only [cm, cond_true, cond_false, pick_or, pick_and, Bool.or_eq_true, Bool.and_eq_true, Bool.or_eq_false_iff, Bool.and_eq_false_iff, Bool.not_eq_true', Bool.not_eq_false', decide_eq_true_eq, decide_eq_false_iff_not, beq_iff_eq, beq_eq_false_iff_ne, bne_iff_ne, bne_eq_false_iff_eq, ge_iff_le, gt_iff_lt, Int.not_lt, Int.not_le] at h2))
    replace h3 : (bif decide ((x : Int) > 16777215) then true else (ar .and .u32 (x : Int) (ar .or .u32 (t.1 : Int) (t.2 : Int)) != 0)) = true := h3
    rw [eh, ea] at h3
    have : x > 16777215 ∨ x &&& (t.1 ||| t.2) ≠ 0 := by
      ((try simp only [BT.eval, IT.eval, SV.den, SV.dens, Env.int, Env.bool, Env.val, Env.ptr, letsOf, letU, snd, List.flatMap_cons, List.flatMap_nil, List.cons_append, List.nil_append, List.append_assoc, List.getElem?_cons_zero, List.getElem?_cons_succ] at h3); (try simp only [cm, cond_true, cond_false, pick_or, pick_and, Bool.or_eq_true, Bool.and_eq_true, Bool.or_eq_false_iff, Bool.and_eq_false_iff, Bool.not_eq_true', Bool.not_eq_false', decide_eq_true_eq, decide_eq_false_iff_not, beq_iff_eq, beq_eq_false_iff_ne, bne_iff_ne, bne_eq_false_iff_eq, ge_iff_le, gt_iff_lt, Int.not_lt, Int.not_le] at h3))
      rcases h3 with h3 | h3
      · left; omega
      · right; simpa using h3
    simp only [changeS, h1, h2, this]; rfl
  ((try simp only [BT.eval, IT.eval, SV.den, SV.dens, Env.int, Env.bool, Env.val, Env.ptr, letsOf, letU, snd, List.flatMap_cons, List.flatMap_nil, List.cons_append, List.nil_append, List.append_assoc, List.getElem?_cons_zero, List.getElem?_cons_succ] at h2); (try simp only [cm, cond_true, cond_false, pick_or, pick_and, Bool.or_eq_true, Bool.and_eq_true, Bool.or_eq_false_iff, Bool.and_eq_false_iff, Bool.not_eq_true', Bool.not_eq_false', decide_eq_true_eq, decide_eq_false_iff_not, beq_iff_eq, beq_eq_false_iff_ne, bne_iff_ne, bne_eq_false_iff_eq, ge_iff_le, gt_iff_lt, Int.not_lt, Int.not_le] at h2))
  replace h3 : (bif decide ((x : Int) > 16777215) then true else (ar .and .u32 (x : Int) (ar .or .u32 (t.1 : Int) (t.2 : Int)) != 0)) = false := h3
  rw [eh, ea] at h3
  ((try simp only [BT.eval, IT.eval, SV.den, SV.dens, Env.int, Env.bool, Env.val, Env.ptr, letsOf, letU, snd, List.flatMap_cons, List.flatMap_nil, List.cons_append, List.nil_append, List.append_assoc, List.getElem?_cons_zero, List.getElem?_cons_succ] at h3); (try simp only [cm, cond_true, cond_false, pick_or, pick_and, Bool.or_eq_true, Bool.and_eq_true, Bool.or_eq_false_iff, Bool.and_eq_false_iff, Bool.not_eq_true', Bool.not_eq_false', decide_eq_true_eq, decide_eq_false_iff_not, beq_iff_eq, beq_eq_false_iff_ne, bne_iff_ne, bne_eq_false_iff_eq, ge_iff_le, gt_iff_lt, Int.not_lt, Int.not_le] at h3))
  have h3a : ¬ x > 16777215 := by omega
  have h3b : x &&& (t.1 ||| t.2) = 0 := by simpa using h3.2
  have vs := (valid_iff s).1 h1
  have vt := (valid_iff t).1 h2
  have hxb : ∀ g, x.testBit g = true → t.1.testBit g = false ∧ t.2.testBit g = false := fun g hg => by
    have := congrArg (·.testBit g) h3b
    simp only [Nat.testBit_and, hg, Nat.testBit_or, Bool.true_and, Nat.zero_testBit, Bool.or_eq_false_iff] at this
    exact this
  refine .loop (fun n us _ => ∃ (f : Nat) (out : Snd), us = [.i f, .i out.1, .i out.2] ∧ n + f = 24 ∧ Upto out (mixS s t (x ||| (t.1 ||| t.2))) s f) 24 ⟨0, s, rfl, rfl, Upto.start h⟩ ?_
  rintro n _ m _ ⟨f, out, rfl, hn, hu⟩
  refine .ite (fun h4 => ?_) (fun h4 => .ret rfl ?_) <;> ((try simp only [BT.eval, IT.eval, SV.den, SV.dens, Env.int, Env.bool, Env.val, Env.ptr, letsOf, letU, snd, List.flatMap_cons, List.flatMap_nil, List.cons_append, List.nil_append, List.append_assoc, List.getElem?_cons_zero, List.getElem?_cons_succ] at h4); (try simp only [cm, cond_true, cond_false, pick_or, pick_and, Bool.or_eq_true, Bool.and_eq_true, Bool.or_eq_false_iff, Bool.and_eq_false_iff, Bool.not_eq_true', Bool.not_eq_false', decide_eq_true_eq, decide_eq_false_iff_not, beq_iff_eq, beq_eq_false_iff_ne, bne_iff_ne, bne_eq_false_iff_eq, ge_iff_le, gt_iff_lt, Int.not_lt, Int.not_le] at h4))
  · have hf : f < 24 := by omega
    obtain ⟨b1, b2⟩ := mixS_bit (t := t) h (x ||| (t.1 ||| t.2)) f
    simp only [Nat.testBit_or] at b1 b2
    have g2 := getV_one h2 hf
    have hstep : ∀ out' : Snd, Upto out' (mixS s t (x ||| (t.1 ||| t.2))) s (f + 1) → ∃ n', n' < n ∧ ∃ (f' : Nat) (out'' : Snd), [U.i (ar .add .i64 (f : Int) 1), U.i out'.1, U.i out'.2] = [.i f', .i out''.1, .i out''.2] ∧ n' + f' = 24 ∧ Upto out'' (mixS s t (x ||| (t.1 ||| t.2))) s f' := fun out' hu' =>
      ⟨n - 1, by omega, f + 1, out', by rw [add_i64 f (by omega)], by omega, hu'⟩
    have hput : ∀ v, getV t f = v → (x.testBit f = true ∨ v ≠ 0) → Upto (putS out f v) (mixS s t (x ||| (t.1 ||| t.2))) s (f + 1) := fun v hv hor => by
      have hbit : (x.testBit f || (t.1.testBit f || t.2.testBit f)) = true := by
        rcases hor with hor | hor
        · simp [hor]
        · rw [g2.1, g2.2, hv]
          rcases getV_range t f with r | r | r <;> rw [hv] at r <;> simp [r] at hor ⊢
      rw [if_pos hbit] at b1 b2
      exact hu.put (by omega) (by rw [b1, g2.1, hv]) (by rw [b2, g2.2, hv])
    refine .chk (by ((try simp only [BT.eval, IT.eval, SV.den, SV.dens, Env.int, Env.bool, Env.val, Env.ptr, letsOf, letU, snd, List.flatMap_cons, List.flatMap_nil, List.cons_append, List.nil_append, List.append_assoc, List.getElem?_cons_zero, List.getElem?_cons_succ]); (try simp only [cm, cond_true, cond_false, pick_or, pick_and, Bool.or_eq_true, Bool.and_eq_true, Bool.or_eq_false_iff, Bool.and_eq_false_iff, Bool.not_eq_true', Bool.not_eq_false', decide_eq_true_eq, decide_eq_false_iff_not, beq_iff_eq, beq_eq_false_iff_ne, bne_iff_ne, bne_eq_false_iff_eq, ge_iff_le, gt_iff_lt, Int.not_lt, Int.not_le])); omega) (.ite (fun h5 => .callV (c_put out f 0 hu.1 (by omega)) (fun _ => trivial) (.callV (c_refGet t f h') (fun _ => trivial) (.ite (fun h6 => ?_) (fun h6 => .again rfl (hstep (putS out f 0) ?_)))))
      (fun h5 => .callV (c_refGet t f h') (fun _ => trivial) (.ite (fun h6 => .callV (c_refGet t f h') (fun _ => trivial) (.callV (c_put out f (getV t f) hu.1 (by omega)) (fun _ => trivial) (.again rfl (hstep (putS out f (getV t f)) ?_)))) (fun h6 => .again rfl (hstep out ?_)))))
    all_goals
      replace h5 : cm .eql (ar .and .u32 (ar .shr .u32 (x : Int) (f : Int)) 1) 1 = _ := h5
      rw [bit_eq _ f hx (by omega)] at h5
      ((try simp only [BT.eval, IT.eval, SV.den, SV.dens, Env.int, Env.bool, Env.val, Env.ptr, letsOf, letU, snd, List.flatMap_cons, List.flatMap_nil, List.cons_append, List.nil_append, List.append_assoc, List.getElem?_cons_zero, List.getElem?_cons_succ] at h6); (try simp only [cm, cond_true, cond_false, pick_or, pick_and, Bool.or_eq_true, Bool.and_eq_true, Bool.or_eq_false_iff, Bool.and_eq_false_iff, Bool.not_eq_true', Bool.not_eq_false', decide_eq_true_eq, decide_eq_false_iff_not, beq_iff_eq, beq_eq_false_iff_ne, bne_iff_ne, bne_eq_false_iff_eq, ge_iff_le, gt_iff_lt, Int.not_lt, Int.not_le] at h6))
    · exfalso
      have := hxb f h5
      rw [g2.1, g2.2] at this
      rcases getV_range t f with r | r | r <;> simp [r] at h6 this
    · exact hput 0 h6 (.inl h5)
    · exact hput _ rfl (.inr h6)
    · have e1 : t.1.testBit f = false := by rw [g2.1, h6]; rfl
      have e2 : t.2.testBit f = false := by rw [g2.2, h6]; rfl
      rw [h5, e1, e2] at b1 b2
      exact hu.keep (by simpa using b1) (by simpa using b2)
  · have : f = 24 := by omega
    subst this
    have hb : ∀ g, 24 ≤ g → (x ||| (t.1 ||| t.2)).testBit g = false := fun g hg => bit_big (n := 24) (Nat.or_lt_two_pow (by omega) (Nat.or_lt_two_pow vt.2.1 vt.2.2)) hg
    have ho : out = mixS s t (x ||| (t.1 ||| t.2)) := hu.end (fun g hg => by rw [(mixS_bit h _ g).1, hb g hg]; simp) (fun g hg => by rw [(mixS_bit h _ g).2, hb g hg]; simp)
    subst ho
    simp only [changeS, h1, h2, h3a, h3b]; rfl
end Go.Proofs.YtiocflikonfefaaDoor
