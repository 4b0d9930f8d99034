/- The contracts of the reference's functions on sounds, and the rest of feats without costs. -/
import Derived.Test.YtedfogpnmpmggaaDoorFa
set_option linter.unusedSimpArgs false
set_option linter.unusedVariables false
namespace Go.Proofs.YtedfogpnmpmggaaDoor
open Go Go.Sy Go.RowKit
theorem c_refValid (s : Snd) (h : Sok s) : Ret Tryd.prog n_ref01_Valid [snd s] (.bool (valid s)) := by
  refine Fn.of S_ref01_Valid mx [.i s.1, .i s.2] rfl rfl fun c _ => .alloc fun _ => ?_
  refine .loop (fun n us _ => ∃ (b : Bool) (f : Nat), us = [.b b, .i f] ∧ n + f = 32 ∧ ∀ g, g < f → ¬ (s.1.testBit g = true ∧ s.2.testBit g = true) ∧ (g < 24 ∨ (s.1.testBit g = false ∧ s.2.testBit g = false))) 32 ⟨false, 0, rfl, rfl, by omega⟩ ?_
  rintro n _ m _ ⟨b, f, rfl, hn, hok⟩
  refine .ite (fun h1 => ?_) (fun h1 => ?_) <;> ((try simp only [BT.eval, IT.eval, SV.den, SV.dens, Env.int, Env.bool, Env.val, Env.ptr, letsOf, letU, snd, List.flatMap_cons, List.flatMap_nil, List.cons_append, List.nil_append, List.append_assoc, List.getElem?_cons_zero, List.getElem?_cons_succ] at h1); (try simp only [cm, cond_true, cond_false, pick_or, pick_and, Bool.or_eq_true, Bool.and_eq_true, Bool.or_eq_false_iff, Bool.and_eq_false_iff, Bool.not_eq_true', Bool.not_eq_false', decide_eq_true_eq, decide_eq_false_iff_not, beq_iff_eq, beq_eq_false_iff_ne, bne_iff_ne, bne_eq_false_iff_eq, ge_iff_le, gt_iff_lt, Int.not_lt, Int.not_le] at h1))
  · have hlt : f < 32 := by omega
    have hno : (s.1.testBit f = true ∧ s.2.testBit f = true) ∨ (24 ≤ f ∧ (s.1.testBit f = true ∨ s.2.testBit f = true)) → valid s = false := fun h => by
      rw [← Bool.not_eq_true]; intro hv
      have hv := (valid_iff s).1 hv
      rcases h with h | ⟨h24, h⟩
      · exact hv.1 f h
      · rw [bit_big hv.2.1 h24, bit_big hv.2.2 h24] at h; simp at h
    have hyes : ¬ (s.1.testBit f = true ∧ s.2.testBit f = true) → (f < 24 ∨ (s.1.testBit f = false ∧ s.2.testBit f = false)) → ∃ n', n' < n ∧ ∃ (b' : Bool) (f' : Nat), [U.b b, U.i (ar .add .i64 (f : Int) 1)] = [.b b', .i f'] ∧ n' + f' = 32 ∧ ∀ g, g < f' → ¬ (s.1.testBit g = true ∧ s.2.testBit g = true) ∧ (g < 24 ∨ (s.1.testBit g = false ∧ s.2.testBit g = false)) := fun h1 h2 =>
      ⟨n - 1, by omega, b, f + 1, by rw [add_i64 f (by omega)], by omega, fun g hg => by
        rcases Nat.lt_or_ge g f with h' | h'
        · exact hok g h'
        · rw [show g = f by omega]; exact ⟨h1, h2⟩⟩
    have e1 := bit_eq _ f h.1 hlt
    have e2 := bit_eq _ f h.2 hlt
    refine .chk (by ((try simp only [BT.eval, IT.eval, SV.den, SV.dens, Env.int, Env.bool, Env.val, Env.ptr, letsOf, letU, snd, List.flatMap_cons, List.flatMap_nil, List.cons_append, List.nil_append, List.append_assoc, List.getElem?_cons_zero, List.getElem?_cons_succ]); (try simp only [cm, cond_true, cond_false, pick_or, pick_and, Bool.or_eq_true, Bool.and_eq_true, Bool.or_eq_false_iff, Bool.and_eq_false_iff, Bool.not_eq_true', Bool.not_eq_false', decide_eq_true_eq, decide_eq_false_iff_not, beq_iff_eq, beq_eq_false_iff_ne, bne_iff_ne, bne_eq_false_iff_eq, ge_iff_le, gt_iff_lt, Int.not_lt, Int.not_le])); omega) (.chk (by ((try simp only [BT.eval, IT.eval, SV.den, SV.dens, Env.int, Env.bool, Env.val, Env.ptr, letsOf, letU, snd, List.flatMap_cons, List.flatMap_nil, List.cons_append, List.nil_append, List.append_assoc, List.getElem?_cons_zero, List.getElem?_cons_succ]); (try simp only [cm, cond_true, cond_false, pick_or, pick_and, Bool.or_eq_true, Bool.and_eq_true, Bool.or_eq_false_iff, Bool.and_eq_false_iff, Bool.not_eq_true', Bool.not_eq_false', decide_eq_true_eq, decide_eq_false_iff_not, beq_iff_eq, beq_eq_false_iff_ne, bne_iff_ne, bne_eq_false_iff_eq, ge_iff_le, gt_iff_lt, Int.not_lt, Int.not_le])); omega) ?_)
    refine .ite (fun h1 => .ite (fun h2 => .ret rfl ?_) (fun h2 => .again rfl (hyes ?_ ?_))) (fun h1 => .ite (fun h2 => .ret rfl ?_) (fun h2 => .again rfl (hyes ?_ ?_)))
    all_goals
      replace h1 : cm .eql (ar .and .u32 (ar .shr .u32 (s.1 : Int) (f : Int)) 1) 1 = _ := h1
      rw [e1] at h1
      first
        | (replace h2 : (bif cm .eql (ar .and .u32 (ar .shr .u32 (s.2 : Int) (f : Int)) 1) 1 then true else cm .geq (f : Int) 24) = _ := h2)
        | (replace h2 : (bif cm .eql (ar .and .u32 (ar .shr .u32 (s.2 : Int) (f : Int)) 1) 1 then cm .geq (f : Int) 24 else false) = _ := h2)
      rw [e2] at h2
      ((try simp only [BT.eval, IT.eval, SV.den, SV.dens, Env.int, Env.bool, Env.val, Env.ptr, letsOf, letU, snd, List.flatMap_cons, List.flatMap_nil, List.cons_append, List.nil_append, List.append_assoc, List.getElem?_cons_zero, List.getElem?_cons_succ] at h2); (try simp only [cm, cond_true, cond_false, pick_or, pick_and, Bool.or_eq_true, Bool.and_eq_true, Bool.or_eq_false_iff, Bool.and_eq_false_iff, Bool.not_eq_true', Bool.not_eq_false', decide_eq_true_eq, decide_eq_false_iff_not, beq_iff_eq, beq_eq_false_iff_ne, bne_iff_ne, bne_eq_false_iff_eq, ge_iff_le, gt_iff_lt, Int.not_lt, Int.not_le] at h2))
    · ((try simp only [BT.eval, IT.eval, SV.den, SV.dens, Env.int, Env.bool, Env.val, Env.ptr, letsOf, letU, snd, List.flatMap_cons, List.flatMap_nil, List.cons_append, List.nil_append, List.append_assoc, List.getElem?_cons_zero, List.getElem?_cons_succ]); (try simp only [cm, cond_true, cond_false, pick_or, pick_and, Bool.or_eq_true, Bool.and_eq_true, Bool.or_eq_false_iff, Bool.and_eq_false_iff, Bool.not_eq_true', Bool.not_eq_false', decide_eq_true_eq, decide_eq_false_iff_not, beq_iff_eq, beq_eq_false_iff_ne, bne_iff_ne, bne_eq_false_iff_eq, ge_iff_le, gt_iff_lt, Int.not_lt, Int.not_le])); rw [hno (by rw [h1]; rcases h2 with h2 | h2; exact .inl ⟨rfl, h2⟩; exact .inr ⟨by omega, .inl rfl⟩)]
    · rw [h2.1]; simp
    · left; omega
    · ((try simp only [BT.eval, IT.eval, SV.den, SV.dens, Env.int, Env.bool, Env.val, Env.ptr, letsOf, letU, snd, List.flatMap_cons, List.flatMap_nil, List.cons_append, List.nil_append, List.append_assoc, List.getElem?_cons_zero, List.getElem?_cons_succ]); (try simp only [cm, cond_true, cond_false, pick_or, pick_and, Bool.or_eq_true, Bool.and_eq_true, Bool.or_eq_false_iff, Bool.and_eq_false_iff, Bool.not_eq_true', Bool.not_eq_false', decide_eq_true_eq, decide_eq_false_iff_not, beq_iff_eq, beq_eq_false_iff_ne, bne_iff_ne, bne_eq_false_iff_eq, ge_iff_le, gt_iff_lt, Int.not_lt, Int.not_le])); rw [hno (.inr ⟨by omega, .inr h2.1⟩)]
    · rw [h1]; simp
    · rcases h2 with h2 | h2
      · exact .inr ⟨h1, h2⟩
      · left; omega
  · have hf : f = 32 := by omega
    subst hf
    refine .ret rfl ?_
    ((try simp only [BT.eval, IT.eval, SV.den, SV.dens, Env.int, Env.bool, Env.val, Env.ptr, letsOf, letU, snd, List.flatMap_cons, List.flatMap_nil, List.cons_append, List.nil_append, List.append_assoc, List.getElem?_cons_zero, List.getElem?_cons_succ]); (try simp only [cm, cond_true, cond_false, pick_or, pick_and, Bool.or_eq_true, Bool.and_eq_true, Bool.or_eq_false_iff, Bool.and_eq_false_iff, Bool.not_eq_true', Bool.not_eq_false', decide_eq_true_eq, decide_eq_false_iff_not, beq_iff_eq, beq_eq_false_iff_ne, bne_iff_ne, bne_eq_false_iff_eq, ge_iff_le, gt_iff_lt, Int.not_lt, Int.not_le]))
    rw [(valid_iff s).2 ⟨fun i hi => ?_, lt_of_bits fun i hi => ?_, lt_of_bits fun i hi => ?_⟩]
    · rcases Nat.lt_or_ge i 32 with h' | h'
      · exact (hok i h').1 hi
      · rw [bit_big h.1 h'] at hi; simp at hi
    · rcases Nat.lt_or_ge i 32 with h' | h'
      · exact ((hok i h').2.resolve_left (by omega)).1
      · exact bit_big h.1 h'
    · rcases Nat.lt_or_ge i 32 with h' | h'
      · exact ((hok i h').2.resolve_left (by omega)).2
      · exact bit_big h.2 h'
theorem c_feature (f : Int) : Ret Tryd.prog n_ref01_feature [.int .i64 f] (.bool (decide (0 ≤ f) && decide (f < 24))) :=
  Fn.of S_ref01_feature mx [.i f] rfl rfl fun c _ => .ret rfl (by show Value.bool (bif decide (f ≥ 0) then decide (f < 24) else false) = _; rw [pick_and])
theorem c_refGet (s : Snd) (f : Int) (h : Sok s) : Ret Tryd.prog n_ref01_Get [snd s, .int .i64 f] (.int .i64 (getV s f)) := by
  refine Fn.of S_ref01_Get mx [.i s.1, .i s.2, .i f] rfl rfl fun c _ => .alloc fun _ => .callV (c_refValid s h) (fun _ => trivial) ?_
  refine .ite (fun h1 => .ret rfl ?_) (fun h1 => .callV (c_feature f) (fun _ => trivial) (.ite (fun h2 => .ret rfl ?_) (fun h2 => ?_))) <;> ((try simp only [BT.eval, IT.eval, SV.den, SV.dens, Env.int, Env.bool, Env.val, Env.ptr, letsOf, letU, snd, List.flatMap_cons, List.flatMap_nil, List.cons_append, List.nil_append, List.append_assoc, List.getElem?_cons_zero, List.getElem?_cons_succ] at h1); (try simp only [cm, cond_true, cond_false, pick_or, pick_and, Bool.or_eq_true, Bool.and_eq_true, Bool.or_eq_false_iff, Bool.and_eq_false_iff, Bool.not_eq_true', Bool.not_eq_false', decide_eq_true_eq, decide_eq_false_iff_not, beq_iff_eq, beq_eq_false_iff_ne, bne_iff_ne, bne_eq_false_iff_eq, ge_iff_le, gt_iff_lt, Int.not_lt, Int.not_le] at h1))
  · ((try simp only [BT.eval, IT.eval, SV.den, SV.dens, Env.int, Env.bool, Env.val, Env.ptr, letsOf, letU, snd, List.flatMap_cons, List.flatMap_nil, List.cons_append, List.nil_append, List.append_assoc, List.getElem?_cons_zero, List.getElem?_cons_succ]); (try simp only [cm, cond_true, cond_false, pick_or, pick_and, Bool.or_eq_true, Bool.and_eq_true, Bool.or_eq_false_iff, Bool.and_eq_false_iff, Bool.not_eq_true', Bool.not_eq_false', decide_eq_true_eq, decide_eq_false_iff_not, beq_iff_eq, beq_eq_false_iff_ne, bne_iff_ne, bne_eq_false_iff_eq, ge_iff_le, gt_iff_lt, Int.not_lt, Int.not_le])); simp [getV, h1]
  · ((try simp only [BT.eval, IT.eval, SV.den, SV.dens, Env.int, Env.bool, Env.val, Env.ptr, letsOf, letU, snd, List.flatMap_cons, List.flatMap_nil, List.cons_append, List.nil_append, List.append_assoc, List.getElem?_cons_zero, List.getElem?_cons_succ] at h2); (try simp only [cm, cond_true, cond_false, pick_or, pick_and, Bool.or_eq_true, Bool.and_eq_true, Bool.or_eq_false_iff, Bool.and_eq_false_iff, Bool.not_eq_true', Bool.not_eq_false', decide_eq_true_eq, decide_eq_false_iff_not, beq_iff_eq, beq_eq_false_iff_ne, bne_iff_ne, bne_eq_false_iff_eq, ge_iff_le, gt_iff_lt, Int.not_lt, Int.not_le] at h2)); ((try simp only [BT.eval, IT.eval, SV.den, SV.dens, Env.int, Env.bool, Env.val, Env.ptr, letsOf, letU, snd, List.flatMap_cons, List.flatMap_nil, List.cons_append, List.nil_append, List.append_assoc, List.getElem?_cons_zero, List.getElem?_cons_succ]); (try simp only [cm, cond_true, cond_false, pick_or, pick_and, Bool.or_eq_true, Bool.and_eq_true, Bool.or_eq_false_iff, Bool.and_eq_false_iff, Bool.not_eq_true', Bool.not_eq_false', decide_eq_true_eq, decide_eq_false_iff_not, beq_iff_eq, beq_eq_false_iff_ne, bne_iff_ne, bne_eq_false_iff_eq, ge_iff_le, gt_iff_lt, Int.not_lt, Int.not_le])); unfold getV; rw [if_neg (by omega)]
  · ((try simp only [BT.eval, IT.eval, SV.den, SV.dens, Env.int, Env.bool, Env.val, Env.ptr, letsOf, letU, snd, List.flatMap_cons, List.flatMap_nil, List.cons_append, List.nil_append, List.append_assoc, List.getElem?_cons_zero, List.getElem?_cons_succ] at h2); (try simp only [cm, cond_true, cond_false, pick_or, pick_and, Bool.or_eq_true, Bool.and_eq_true, Bool.or_eq_false_iff, Bool.and_eq_false_iff, Bool.not_eq_true', Bool.not_eq_false', decide_eq_true_eq, decide_eq_false_iff_not, beq_iff_eq, beq_eq_false_iff_ne, bne_iff_ne, bne_eq_false_iff_eq, ge_iff_le, gt_iff_lt, Int.not_lt, Int.not_le] at h2))
    obtain ⟨g, rfl⟩ := Int.eq_ofNat_of_zero_le h2.1
    have hg : g < 24 := by omega
    have o := ((valid_iff s).1 h1).1 g
    refine .chk (by ((try simp only [BT.eval, IT.eval, SV.den, SV.dens, Env.int, Env.bool, Env.val, Env.ptr, letsOf, letU, snd, List.flatMap_cons, List.flatMap_nil, List.cons_append, List.nil_append, List.append_assoc, List.getElem?_cons_zero, List.getElem?_cons_succ]); (try simp only [cm, cond_true, cond_false, pick_or, pick_and, Bool.or_eq_true, Bool.and_eq_true, Bool.or_eq_false_iff, Bool.and_eq_false_iff, Bool.not_eq_true', Bool.not_eq_false', decide_eq_true_eq, decide_eq_false_iff_not, beq_iff_eq, beq_eq_false_iff_ne, bne_iff_ne, bne_eq_false_iff_eq, ge_iff_le, gt_iff_lt, Int.not_lt, Int.not_le])); omega) (.ite (fun h3 => .ret rfl ?_) (fun h3 => .chk (by ((try simp only [BT.eval, IT.eval, SV.den, SV.dens, Env.int, Env.bool, Env.val, Env.ptr, letsOf, letU, snd, List.flatMap_cons, List.flatMap_nil, List.cons_append, List.nil_append, List.append_assoc, List.getElem?_cons_zero, List.getElem?_cons_succ]); (try simp only [cm, cond_true, cond_false, pick_or, pick_and, Bool.or_eq_true, Bool.and_eq_true, Bool.or_eq_false_iff, Bool.and_eq_false_iff, Bool.not_eq_true', Bool.not_eq_false', decide_eq_true_eq, decide_eq_false_iff_not, beq_iff_eq, beq_eq_false_iff_ne, bne_iff_ne, bne_eq_false_iff_eq, ge_iff_le, gt_iff_lt, Int.not_lt, Int.not_le])); omega) (.ite (fun h4 => .ret rfl ?_) (fun h4 => .ret rfl ?_))))
    all_goals
      replace h3 : cm .eql (ar .and .u32 (ar .shr .u32 (s.1 : Int) (g : Int)) 1) 1 = _ := h3
      rw [bit_eq _ g h.1 (by omega)] at h3
    · have h4 : s.2.testBit g = false := by rw [← Bool.not_eq_true]; exact fun h => o ⟨h3, h⟩
      ((try simp only [BT.eval, IT.eval, SV.den, SV.dens, Env.int, Env.bool, Env.val, Env.ptr, letsOf, letU, snd, List.flatMap_cons, List.flatMap_nil, List.cons_append, List.nil_append, List.append_assoc, List.getElem?_cons_zero, List.getElem?_cons_succ]); (try simp only [cm, cond_true, cond_false, pick_or, pick_and, Bool.or_eq_true, Bool.and_eq_true, Bool.or_eq_false_iff, Bool.and_eq_false_iff, Bool.not_eq_true', Bool.not_eq_false', decide_eq_true_eq, decide_eq_false_iff_not, beq_iff_eq, beq_eq_false_iff_ne, bne_iff_ne, bne_eq_false_iff_eq, ge_iff_le, gt_iff_lt, Int.not_lt, Int.not_le])); rw [getV_bit h1 hg, h3, h4]; rfl
    all_goals
      replace h4 : cm .eql (ar .and .u32 (ar .shr .u32 (s.2 : Int) (g : Int)) 1) 1 = _ := h4
      rw [bit_eq _ g h.2 (by omega)] at h4
      ((try simp only [BT.eval, IT.eval, SV.den, SV.dens, Env.int, Env.bool, Env.val, Env.ptr, letsOf, letU, snd, List.flatMap_cons, List.flatMap_nil, List.cons_append, List.nil_append, List.append_assoc, List.getElem?_cons_zero, List.getElem?_cons_succ]); (try simp only [cm, cond_true, cond_false, pick_or, pick_and, Bool.or_eq_true, Bool.and_eq_true, Bool.or_eq_false_iff, Bool.and_eq_false_iff, Bool.not_eq_true', Bool.not_eq_false', decide_eq_true_eq, decide_eq_false_iff_not, beq_iff_eq, beq_eq_false_iff_ne, bne_iff_ne, bne_eq_false_iff_eq, ge_iff_le, gt_iff_lt, Int.not_lt, Int.not_le])); rw [getV_bit h1 hg, h3, h4]; rfl
end Go.Proofs.YtedfogpnmpmggaaDoor
