/- The contracts of the functions of feats and of its reference that have no loop or answer a number. -/
import Derived.Test.YtiocflikonfefaaDoorPb
import Derived.Test.YtiocflikonfefaaDoorTa
set_option linter.unusedSimpArgs false
set_option linter.unusedVariables false
namespace Go.Proofs.YtiocflikonfefaaDoor
open Go Go.Sy Go.RowKit
theorem mx : Tryd.prog.follows .mixedOrders = true := by kernel_rfl
theorem c_valid (s : Snd) (h : Sok s) : Ret Tryd.prog n_feats_Valid [snd s] (.bool (valid s)) :=
  Fn.of S_feats_Valid mx [.i s.1, .i s.2] rfl rfl fun c _ => .alloc fun _ => .ret rfl (by
    show Value.bool (bif (ar .and .u32 (s.1 : Int) s.2 == 0) then decide (ar .or .u32 (s.1 : Int) s.2 ≤ 16777215) else false) = _
    rw [ar_and _ _ h.1 h.2, ar_or _ _ h.1 h.2, valid]
    congr 1
    cases h : (s.1 &&& s.2 == 0) <;> simp_all <;> omega)
theorem c_mix (s t : Snd) (x : Nat) (hs : Sok s) (ht : Sok t) (hx : x < 2 ^ 32) : Ret Tryd.prog n_feats_mix [snd s, snd t, .int .u32 x] (snd (mixS s t x)) :=
  Fn.of S_feats_mix mx [.i s.1, .i s.2, .i t.1, .i t.2, .i x] rfl rfl fun c _ => .alloc fun _ => .alloc fun _ => .alloc fun _ => .ret rfl (by
    have hl : ∀ {a b : Nat}, a < 2 ^ 32 → a &&& b < 2 ^ 32 := fun h => Nat.lt_of_le_of_lt Nat.and_le_left h
    show Value.agg #[.int .u32 (ar .or .u32 (ar .andNot .u32 (s.1 : Int) x) (ar .and .u32 (t.1 : Int) x)), .int .u32 (ar .or .u32 (ar .andNot .u32 (s.2 : Int) x) (ar .and .u32 (t.2 : Int) x))] = _
    rw [ar_andNot _ _ hs.1, ar_andNot _ _ hs.2, ar_and _ _ ht.1 hx, ar_and _ _ ht.2 hx, ar_or _ _ (nandN_lt hs.1) (hl ht.1), ar_or _ _ (nandN_lt hs.2) (hl ht.2)]
    rfl)
theorem c_get (s : Snd) (f : Int) (h : Sok s) : Ret Tryd.prog n_feats_Get [snd s, .int .i64 f] (.int .i64 (getV s f)) := by
  refine Fn.of S_feats_Get mx [.i s.1, .i s.2, .i f] rfl rfl fun c _ => .alloc fun _ => .callV (c_valid s h) (fun _ => trivial) ?_
  refine .ite (fun h1 => .ret rfl ?_) (fun h1 => ?_) <;> ((try simp only [BT.eval, IT.eval, SV.den, SV.dens, Env.int, Env.bool, Env.val, Env.ptr, letsOf, letU, snd, List.flatMap_cons, List.flatMap_nil, List.cons_append, List.nil_append, List.append_assoc, List.getElem?_cons_zero, List.getElem?_cons_succ] at h1); (try simp only [cm, cond_true, cond_false, pick_or, pick_and, Bool.or_eq_true, Bool.and_eq_true, Bool.or_eq_false_iff, Bool.and_eq_false_iff, Bool.not_eq_true', Bool.not_eq_false', decide_eq_true_eq, decide_eq_false_iff_not, beq_iff_eq, beq_eq_false_iff_ne, bne_iff_ne, bne_eq_false_iff_eq, ge_iff_le, gt_iff_lt, Int.not_lt, Int.not_le] at h1))
  · have : ¬ (valid s = true ∧ 0 ≤ f ∧ f < 24) := by
      rintro ⟨hv, h0, h24⟩
      simp [hv] at h1; omega
    ((try simp only [BT.eval, IT.eval, SV.den, SV.dens, Env.int, Env.bool, Env.val, Env.ptr, letsOf, letU, snd, List.flatMap_cons, List.flatMap_nil, List.cons_append, List.nil_append, List.append_assoc, List.getElem?_cons_zero, List.getElem?_cons_succ]); (try simp only [cm, cond_true, cond_false, pick_or, pick_and, Bool.or_eq_true, Bool.and_eq_true, Bool.or_eq_false_iff, Bool.and_eq_false_iff, Bool.not_eq_true', Bool.not_eq_false', decide_eq_true_eq, decide_eq_false_iff_not, beq_iff_eq, beq_eq_false_iff_ne, bne_iff_ne, bne_eq_false_iff_eq, ge_iff_le, gt_iff_lt, Int.not_lt, Int.not_le]))
    unfold getV; rw [if_neg this]
  obtain ⟨⟨hv, hf0⟩, hf24⟩ := h1
  refine .chk (by ((try simp only [BT.eval, IT.eval, SV.den, SV.dens, Env.int, Env.bool, Env.val, Env.ptr, letsOf, letU, snd, List.flatMap_cons, List.flatMap_nil, List.cons_append, List.nil_append, List.append_assoc, List.getElem?_cons_zero, List.getElem?_cons_succ]); (try simp only [cm, cond_true, cond_false, pick_or, pick_and, Bool.or_eq_true, Bool.and_eq_true, Bool.or_eq_false_iff, Bool.and_eq_false_iff, Bool.not_eq_true', Bool.not_eq_false', decide_eq_true_eq, decide_eq_false_iff_not, beq_iff_eq, beq_eq_false_iff_ne, bne_iff_ne, bne_eq_false_iff_eq, ge_iff_le, gt_iff_lt, Int.not_lt, Int.not_le])); exact hf0) (.chk (by ((try simp only [BT.eval, IT.eval, SV.den, SV.dens, Env.int, Env.bool, Env.val, Env.ptr, letsOf, letU, snd, List.flatMap_cons, List.flatMap_nil, List.cons_append, List.nil_append, List.append_assoc, List.getElem?_cons_zero, List.getElem?_cons_succ]); (try simp only [cm, cond_true, cond_false, pick_or, pick_and, Bool.or_eq_true, Bool.and_eq_true, Bool.or_eq_false_iff, Bool.and_eq_false_iff, Bool.not_eq_true', Bool.not_eq_false', decide_eq_true_eq, decide_eq_false_iff_not, beq_iff_eq, beq_eq_false_iff_ne, bne_iff_ne, bne_eq_false_iff_eq, ge_iff_le, gt_iff_lt, Int.not_lt, Int.not_le])); exact hf0) (.ret rfl ?_))
  obtain ⟨g, rfl⟩ := Int.eq_ofNat_of_zero_le hf0
  have hg : g < 32 := by omega
  show Value.int .i64 (ar .sub .i64 (IntKind.i64.wrap (ar .and .u32 (ar .shr .u32 (s.1 : Int) (g : Int)) 1)) (IntKind.i64.wrap (ar .and .u32 (ar .shr .u32 (s.2 : Int) (g : Int)) 1))) = _
  rw [ar_bit _ g h.1 hg, ar_bit _ g h.2 hg, getV_bit hv (by omega)]
  cases s.1.testBit g <;> cases s.2.testBit g <;> rfl
theorem c_with (s : Snd) (f v : Int) (h : Sok s) : Ret Tryd.prog n_feats_With [snd s, .int .i64 f, .int .i64 v] (.tuple #[snd (withS s f v).1, .int .i64 (withS s f v).2]) := by
  refine Fn.of S_feats_With mx [.i s.1, .i s.2, .i f, .i v] rfl rfl fun c _ => .alloc fun _ => .alloc fun _ => .callV (c_valid s h) (fun _ => trivial) ?_
  refine .ite (fun h1 => .ret rfl ?_) (fun h1 => .ite (fun h2 => .ret rfl ?_) (fun h2 => .ite (fun h3 => .ret rfl ?_) (fun h3 => ?_)))
  · ((try simp only [BT.eval, IT.eval, SV.den, SV.dens, Env.int, Env.bool, Env.val, Env.ptr, letsOf, letU, snd, List.flatMap_cons, List.flatMap_nil, List.cons_append, List.nil_append, List.append_assoc, List.getElem?_cons_zero, List.getElem?_cons_succ] at h1); (try simp only [cm, cond_true, cond_false, pick_or, pick_and, Bool.or_eq_true, Bool.and_eq_true, Bool.or_eq_false_iff, Bool.and_eq_false_iff, Bool.not_eq_true', Bool.not_eq_false', decide_eq_true_eq, decide_eq_false_iff_not, beq_iff_eq, beq_eq_false_iff_ne, bne_iff_ne, bne_eq_false_iff_eq, ge_iff_le, gt_iff_lt, Int.not_lt, Int.not_le] at h1))
    simp [withS, h1]; rfl
  · ((try simp only [BT.eval, IT.eval, SV.den, SV.dens, Env.int, Env.bool, Env.val, Env.ptr, letsOf, letU, snd, List.flatMap_cons, List.flatMap_nil, List.cons_append, List.nil_append, List.append_assoc, List.getElem?_cons_zero, List.getElem?_cons_succ] at h1 h2); (try simp only [cm, cond_true, cond_false, pick_or, pick_and, Bool.or_eq_true, Bool.and_eq_true, Bool.or_eq_false_iff, Bool.and_eq_false_iff, Bool.not_eq_true', Bool.not_eq_false', decide_eq_true_eq, decide_eq_false_iff_not, beq_iff_eq, beq_eq_false_iff_ne, bne_iff_ne, bne_eq_false_iff_eq, ge_iff_le, gt_iff_lt, Int.not_lt, Int.not_le] at h1 h2))
    simp [withS, h1, h2]; rfl
  · ((try simp only [BT.eval, IT.eval, SV.den, SV.dens, Env.int, Env.bool, Env.val, Env.ptr, letsOf, letU, snd, List.flatMap_cons, List.flatMap_nil, List.cons_append, List.nil_append, List.append_assoc, List.getElem?_cons_zero, List.getElem?_cons_succ] at h1 h2 h3); (try simp only [cm, cond_true, cond_false, pick_or, pick_and, Bool.or_eq_true, Bool.and_eq_true, Bool.or_eq_false_iff, Bool.and_eq_false_iff, Bool.not_eq_true', Bool.not_eq_false', decide_eq_true_eq, decide_eq_false_iff_not, beq_iff_eq, beq_eq_false_iff_ne, bne_iff_ne, bne_eq_false_iff_eq, ge_iff_le, gt_iff_lt, Int.not_lt, Int.not_le] at h1 h2 h3))
    have hf : ¬ (f < 0 ∨ f ≥ 24) := by omega
    unfold withS; rw [if_neg (by simp [h1]), if_neg hf, if_pos h3]; rfl
  ((try simp only [BT.eval, IT.eval, SV.den, SV.dens, Env.int, Env.bool, Env.val, Env.ptr, letsOf, letU, snd, List.flatMap_cons, List.flatMap_nil, List.cons_append, List.nil_append, List.append_assoc, List.getElem?_cons_zero, List.getElem?_cons_succ] at h1 h2 h3); (try simp only [cm, cond_true, cond_false, pick_or, pick_and, Bool.or_eq_true, Bool.and_eq_true, Bool.or_eq_false_iff, Bool.and_eq_false_iff, Bool.not_eq_true', Bool.not_eq_false', decide_eq_true_eq, decide_eq_false_iff_not, beq_iff_eq, beq_eq_false_iff_ne, bne_iff_ne, bne_eq_false_iff_eq, ge_iff_le, gt_iff_lt, Int.not_lt, Int.not_le] at h1 h2 h3))
  have hf : ¬ (f < 0 ∨ f ≥ 24) := by omega
  have hvv : ¬ (v < -1 ∨ v > 1) := by omega
  have hw : withS s f v = (putS s f.toNat v, 0) := by unfold withS; rw [if_neg (by simp [h1]), if_neg hf, if_neg hvv]
  rw [hw]
  obtain ⟨g, rfl⟩ := Int.eq_ofNat_of_zero_le h2.1
  have hg : g < 32 := by omega
  have hb : ar .shl .u32 1 (g : Int) = ((2 ^ g : Nat) : Int) := ar_shl1 g hg
  have h2g := pow_lt32 hg
  have hm : ∀ (p q : Nat), (p = if v > 0 then 2 ^ g else 0) → (q = if v < 0 then 2 ^ g else 0) → mixS s (p, q) (2 ^ g) = putS s g v := fun p q e1 e2 => by
    rw [e1, e2]; exact mixS_put (by omega)
  have fin : ∀ (p q : Nat) (x y z : Int), Sok (p, q) → x = p → y = q → z = (2 ^ g : Nat) → (p = if v > 0 then 2 ^ g else 0) → (q = if v < 0 then 2 ^ g else 0) →
      Ret Tryd.prog n_feats_mix [snd s, .agg #[.int .u32 x, .int .u32 y], .int .u32 z] (snd (putS s g v)) := fun p q x y z hpq hx hy hz e1 e2 => by
    have := c_mix s (p, q) (2 ^ g) h hpq h2g
    rw [hm p q e1 e2] at this
    rw [hx, hy, hz]; exact this
  refine .chk (by ((try simp only [BT.eval, IT.eval, SV.den, SV.dens, Env.int, Env.bool, Env.val, Env.ptr, letsOf, letU, snd, List.flatMap_cons, List.flatMap_nil, List.cons_append, List.nil_append, List.append_assoc, List.getElem?_cons_zero, List.getElem?_cons_succ]); (try simp only [cm, cond_true, cond_false, pick_or, pick_and, Bool.or_eq_true, Bool.and_eq_true, Bool.or_eq_false_iff, Bool.and_eq_false_iff, Bool.not_eq_true', Bool.not_eq_false', decide_eq_true_eq, decide_eq_false_iff_not, beq_iff_eq, beq_eq_false_iff_ne, bne_iff_ne, bne_eq_false_iff_eq, ge_iff_le, gt_iff_lt, Int.not_lt, Int.not_le])); exact h2.1) (.alloc fun _ => .ite (fun h4 => .ite (fun h5 => ?_) (fun h5 => ?_)) (fun h4 => .ite (fun h5 => ?_) (fun h5 => ?_)))
  · ((try simp only [BT.eval, IT.eval, SV.den, SV.dens, Env.int, Env.bool, Env.val, Env.ptr, letsOf, letU, snd, List.flatMap_cons, List.flatMap_nil, List.cons_append, List.nil_append, List.append_assoc, List.getElem?_cons_zero, List.getElem?_cons_succ] at h4 h5); (try simp only [cm, cond_true, cond_false, pick_or, pick_and, Bool.or_eq_true, Bool.and_eq_true, Bool.or_eq_false_iff, Bool.and_eq_false_iff, Bool.not_eq_true', Bool.not_eq_false', decide_eq_true_eq, decide_eq_false_iff_not, beq_iff_eq, beq_eq_false_iff_ne, bne_iff_ne, bne_eq_false_iff_eq, ge_iff_le, gt_iff_lt, Int.not_lt, Int.not_le] at h4 h5)); omega
  · ((try simp only [BT.eval, IT.eval, SV.den, SV.dens, Env.int, Env.bool, Env.val, Env.ptr, letsOf, letU, snd, List.flatMap_cons, List.flatMap_nil, List.cons_append, List.nil_append, List.append_assoc, List.getElem?_cons_zero, List.getElem?_cons_succ] at h4 h5); (try simp only [cm, cond_true, cond_false, pick_or, pick_and, Bool.or_eq_true, Bool.and_eq_true, Bool.or_eq_false_iff, Bool.and_eq_false_iff, Bool.not_eq_true', Bool.not_eq_false', decide_eq_true_eq, decide_eq_false_iff_not, beq_iff_eq, beq_eq_false_iff_ne, bne_iff_ne, bne_eq_false_iff_eq, ge_iff_le, gt_iff_lt, Int.not_lt, Int.not_le] at h4 h5)); exact .callV (fin (2 ^ g) 0 _ _ _ ⟨h2g, by simp⟩ hb rfl hb (by rw [if_pos h4]) (by rw [if_neg (by omega)])) (fun _ => trivial) (.ret rfl rfl)
  · ((try simp only [BT.eval, IT.eval, SV.den, SV.dens, Env.int, Env.bool, Env.val, Env.ptr, letsOf, letU, snd, List.flatMap_cons, List.flatMap_nil, List.cons_append, List.nil_append, List.append_assoc, List.getElem?_cons_zero, List.getElem?_cons_succ] at h4 h5); (try simp only [cm, cond_true, cond_false, pick_or, pick_and, Bool.or_eq_true, Bool.and_eq_true, Bool.or_eq_false_iff, Bool.and_eq_false_iff, Bool.not_eq_true', Bool.not_eq_false', decide_eq_true_eq, decide_eq_false_iff_not, beq_iff_eq, beq_eq_false_iff_ne, bne_iff_ne, bne_eq_false_iff_eq, ge_iff_le, gt_iff_lt, Int.not_lt, Int.not_le] at h4 h5)); exact .callV (fin 0 (2 ^ g) _ _ _ ⟨by simp, h2g⟩ rfl hb hb (by rw [if_neg (by omega)]) (by rw [if_pos h5])) (fun _ => trivial) (.ret rfl rfl)
  · ((try simp only [BT.eval, IT.eval, SV.den, SV.dens, Env.int, Env.bool, Env.val, Env.ptr, letsOf, letU, snd, List.flatMap_cons, List.flatMap_nil, List.cons_append, List.nil_append, List.append_assoc, List.getElem?_cons_zero, List.getElem?_cons_succ] at h4 h5); (try simp only [cm, cond_true, cond_false, pick_or, pick_and, Bool.or_eq_true, Bool.and_eq_true, Bool.or_eq_false_iff, Bool.and_eq_false_iff, Bool.not_eq_true', Bool.not_eq_false', decide_eq_true_eq, decide_eq_false_iff_not, beq_iff_eq, beq_eq_false_iff_ne, bne_iff_ne, bne_eq_false_iff_eq, ge_iff_le, gt_iff_lt, Int.not_lt, Int.not_le] at h4 h5)); exact .callV (fin 0 0 _ _ _ ⟨by simp, by simp⟩ rfl rfl hb (by rw [if_neg (by omega)]) (by rw [if_neg (by omega)])) (fun _ => trivial) (.ret rfl rfl)
end Go.Proofs.YtiocflikonfefaaDoor
