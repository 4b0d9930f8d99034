/- The contracts of Meet, Diff, Take, Change, Order and their references; the small ones. -/
import Derived.Test.YtedfogpnmpmggaaDoorFb
set_option linter.unusedSimpArgs false
set_option linter.unusedVariables false
namespace Go.Proofs.YtedfogpnmpmggaaDoor
open Go Go.Sy Go.RowKit
theorem meetS_bit (s t : Snd) {f : Nat} (hf : f < 24) : (meetS s t).1.testBit f = (getV s f == getV t f && getV s f == 1) ∧ (meetS s t).2.testBit f = (getV s f == getV t f && getV s f == -1) := by
  by_cases hs : valid s = true <;> by_cases ht : valid t = true
  · have g1 := getV_one hs hf; have g2 := getV_one ht hf
    simp only [meetS, hs, ht, Bool.and_self, if_true, Nat.testBit_and, g1.1, g1.2, g2.1, g2.2]
    rcases getV_range s f with r1 | r1 | r1 <;> rcases getV_range t f with r2 | r2 | r2 <;> simp [r1, r2]
  · have e : getV t f = 0 := by simp [getV, ht]
    simp only [meetS, hs, ht, e]
    rcases getV_range s f with r1 | r1 | r1 <;> simp [r1]
  · have e : getV s f = 0 := by simp [getV, hs]
    simp [meetS, hs, e]
  · have e : getV s f = 0 := by simp [getV, hs]
    simp [meetS, hs, e]
theorem Sok.zero : Sok (0, 0) := ⟨by simp, by simp⟩
theorem diffS_lt (s t : Snd) : diffS s t < 2 ^ 24 := by
  unfold diffS
  split
  · rename_i e; simp only [Bool.and_eq_true] at e
    have v := (valid_iff s).1 e.1; have v' := (valid_iff t).1 e.2
    exact Nat.or_lt_two_pow (Nat.xor_lt_two_pow v.2.1 v'.2.1) (Nat.xor_lt_two_pow v.2.2 v'.2.2)
  · simp
theorem diffS_bit {s t : Snd} (hs : valid s = true) (ht : valid t = true) {f : Nat} (hf : f < 24) : (diffS s t).testBit f = (getV s f != getV t f) := by
  have g1 := getV_one hs hf; have g2 := getV_one ht hf
  simp only [diffS, hs, ht, Bool.and_self, if_true, Nat.testBit_or, Nat.testBit_xor, g1.1, g1.2, g2.1, g2.2]
  rcases getV_range s f with r1 | r1 | r1 <;> rcases getV_range t f with r2 | r2 | r2 <;> simp [r1, r2]
theorem c_diff (s t : Snd) (h : Sok s) (h' : Sok t) : Ret Tryd.prog n_feats_Diff [snd s, snd t] (.int .u32 (diffS s t)) := by
  refine Fn.of S_feats_Diff mx [.i s.1, .i s.2, .i t.1, .i t.2] rfl rfl fun c _ => .alloc fun _ => .alloc fun _ => .callV (c_valid s h) (fun _ => trivial) ?_
  refine .ite (fun h1 => .ret rfl ?_) (fun h1 => .callV (c_valid t h') (fun _ => trivial) (.ite (fun h2 => .ret rfl ?_) (fun h2 => .ret rfl ?_))) <;> ((try simp only [BT.eval, IT.eval, SV.den, SV.dens, Env.int, Env.bool, Env.val, Env.ptr, letsOf, letU, snd, List.flatMap_cons, List.flatMap_nil, List.cons_append, List.nil_append, List.append_assoc, List.getElem?_cons_zero, List.getElem?_cons_succ] at h1); (try simp only [cm, cond_true, cond_false, pick_or, pick_and, Bool.or_eq_true, Bool.and_eq_true, Bool.or_eq_false_iff, Bool.and_eq_false_iff, Bool.not_eq_true', Bool.not_eq_false', decide_eq_true_eq, decide_eq_false_iff_not, beq_iff_eq, beq_eq_false_iff_ne, bne_iff_ne, bne_eq_false_iff_eq, ge_iff_le, gt_iff_lt, Int.not_lt, Int.not_le] at h1))
  · simp [diffS, h1]; rfl
  · ((try simp only [BT.eval, IT.eval, SV.den, SV.dens, Env.int, Env.bool, Env.val, Env.ptr, letsOf, letU, snd, List.flatMap_cons, List.flatMap_nil, List.cons_append, List.nil_append, List.append_assoc, List.getElem?_cons_zero, List.getElem?_cons_succ] at h2); (try simp only [cm, cond_true, cond_false, pick_or, pick_and, Bool.or_eq_true, Bool.and_eq_true, Bool.or_eq_false_iff, Bool.and_eq_false_iff, Bool.not_eq_true', Bool.not_eq_false', decide_eq_true_eq, decide_eq_false_iff_not, beq_iff_eq, beq_eq_false_iff_ne, bne_iff_ne, bne_eq_false_iff_eq, ge_iff_le, gt_iff_lt, Int.not_lt, Int.not_le] at h2)); simp [diffS, h2]; rfl
  · ((try simp only [BT.eval, IT.eval, SV.den, SV.dens, Env.int, Env.bool, Env.val, Env.ptr, letsOf, letU, snd, List.flatMap_cons, List.flatMap_nil, List.cons_append, List.nil_append, List.append_assoc, List.getElem?_cons_zero, List.getElem?_cons_succ] at h2); (try simp only [cm, cond_true, cond_false, pick_or, pick_and, Bool.or_eq_true, Bool.and_eq_true, Bool.or_eq_false_iff, Bool.and_eq_false_iff, Bool.not_eq_true', Bool.not_eq_false', decide_eq_true_eq, decide_eq_false_iff_not, beq_iff_eq, beq_eq_false_iff_ne, bne_iff_ne, bne_eq_false_iff_eq, ge_iff_le, gt_iff_lt, Int.not_lt, Int.not_le] at h2))
    show Value.int .u32 (ar .or .u32 (ar .xor .u32 (s.1 : Int) t.1) (ar .xor .u32 (s.2 : Int) t.2)) = _
    rw [ar_xor _ _ h.1 h'.1, ar_xor _ _ h.2 h'.2, ar_or _ _ (Nat.xor_lt_two_pow h.1 h'.1) (Nat.xor_lt_two_pow h.2 h'.2)]; simp [diffS, h1, h2]
end Go.Proofs.YtedfogpnmpmggaaDoor
