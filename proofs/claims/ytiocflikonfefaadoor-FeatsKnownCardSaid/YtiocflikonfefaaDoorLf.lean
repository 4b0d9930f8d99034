/- FeatsKnown: what the law's code answers. -/
import Derived.Test.YtiocflikonfefaaDoorLd
set_option linter.unusedSimpArgs false
set_option linter.unusedVariables false
namespace Go.Proofs.YtiocflikonfefaaDoor
open Go Go.Sy Go.RowKit
theorem okz : Sok (0, 0) := ⟨by decide, by decide⟩
theorem b_with (s : Snd) (h : Sok s) (hv : valid s = false) : Ret Tryd.prog n_feats_With [snd s, .int .i64 (-1), .int .i64 5] (.tuple #[snd (0, 0), .int .i64 14]) := by
  have := c_with s (-1) 5 h
  rw [show withS s (-1) 5 = ((0, 0), 14) by simp [withS, hv]] at this; exact this
theorem b_dist (s : Snd) (h : Sok s) (hv : valid s = false) : RetP Tryd.prog n_feats_Dist [snd (2, 5), snd s, costs none 0 0 (-1)] TabOk (.tuple #[.int .i64 0, .int .i64 14]) := by
  have := c_dist (2, 5) s none 0 [] (-1) okp h
  rw [show distC (2, 5) s [] (-1) = (0, 14) by simp [distC, hv]] at this
  exact FnM.mono this (fun R hR => ⟨fun i x hx => by simp at hx, hR⟩) fun _ _ _ q => q
theorem b_change (s : Snd) (h : Sok s) (hv : valid s = false) : Ret Tryd.prog n_feats_Change [snd (2, 5), .int .u32 16777216, snd s] (.tuple #[snd (0, 0), .int .i64 14]) := by
  have := c_change (2, 5) s 16777216 okp h (by decide)
  rw [show changeS (2, 5) 16777216 s = ((0, 0), 14) by simp [changeS, hv]] at this; exact this
theorem b_take (s : Snd) (h : Sok s) (hv : valid s = false) : Ret Tryd.prog n_feats_Take [snd s, snd (2, 5), .int .u32 16777216] (.tuple #[snd (0, 0), .int .i64 14]) := by
  have := c_take s (2, 5) 16777216 h okp (by decide)
  rw [show takeS s (2, 5) 16777216 = ((0, 0), 14) by simp [takeS, hv]] at this; exact this
theorem b_unify (s : Snd) (h : Sok s) (hv : valid s = false) : Ret Tryd.prog n_feats_Unify [snd s, snd s] (.tuple #[snd (0, 0), .bool false]) := by
  have := c_unify s s h h
  rw [show unifyS s s = ((0, 0), false) by simp [unifyS, hv]] at this; exact this
theorem b_valid (s : Snd) (h : Sok s) (hv : valid s = false) : Ret Tryd.prog n_feats_Valid [snd s] (.bool false) := by
  have := c_valid s h
  rw [hv] at this; exact this
theorem b_get (s : Snd) (h : Sok s) (hv : valid s = false) : Ret Tryd.prog n_feats_Get [snd s, .int .i64 0] (.int .i64 0) := by
  have := c_get s 0 h
  rw [show getV s 0 = 0 by simp [getV, hv]] at this; exact this
theorem b_sat (s : Snd) (h : Sok s) (hv : valid s = false) : Ret Tryd.prog n_feats_Satisfies [snd s, snd (0, 0)] (.bool false) := by
  have := c_sat s (0, 0) h okz
  rw [show satS s (0, 0) = false by simp [satS, hv]] at this; exact this
theorem b_diff (s : Snd) (h : Sok s) (hv : valid s = false) : Ret Tryd.prog n_feats_Diff [snd s, snd (2, 5)] (.int .u32 0) := by
  have := c_diff s (2, 5) h okp
  rw [show diffS s (2, 5) = 0 by simp [diffS, hv]] at this; exact this
theorem b_meet (s : Snd) (h : Sok s) (hv : valid s = false) : Ret Tryd.prog n_feats_Meet [snd s, snd s] (snd (0, 0)) := by
  have := c_meet s s h h
  rw [show meetS s s = (0, 0) by simp [meetS, hv]] at this; exact this
theorem o0 : Sok (1, 1) := ⟨by decide, by decide⟩
theorem v0 : valid (1, 1) = false := by decide
theorem o1 : Sok (16777216, 0) := ⟨by decide, by decide⟩
theorem v1 : valid (16777216, 0) = false := by decide
theorem o2 : Sok (0, 2147483648) := ⟨by decide, by decide⟩
theorem v2 : valid (0, 2147483648) = false := by decide
theorem o3 : Sok (4294967295, 1) := ⟨by decide, by decide⟩
theorem v3 : valid (4294967295, 1) = false := by decide
set_option maxHeartbeats 2000000 in
theorem l_FeatsKnown : RetP Tryd.prog n_law01_FeatsKnown [] TabOk (.bool true) := by
  refine Fn.of S_law01_FeatsKnown mx [] rfl rfl fun c hp => .alloc fun _ => .loop (fun n us _ => ∃ (b : Bool) (j : Nat), us = [.b b, .i j] ∧ n + j = 4 ∧ b = false) 4 ⟨false, 0, rfl, rfl, rfl⟩ ?_
  rintro n _ m _ ⟨b, j, rfl, hn, rfl⟩
  refine .ite (fun h1 => ?_) (fun h1 => ?_) <;> ((try simp only [BT.eval, IT.eval, SV.den, SV.dens, Env.int, Env.bool, Env.val, Env.ptr, letsOf, letU, snd, List.flatMap_cons, List.flatMap_nil, List.cons_append, List.nil_append, List.append_assoc, List.getElem?_cons_zero, List.getElem?_cons_succ] at h1); (try simp only [cm, cond_true, cond_false, pick_or, pick_and, Bool.or_eq_true, Bool.and_eq_true, Bool.or_eq_false_iff, Bool.and_eq_false_iff, Bool.not_eq_true', Bool.not_eq_false', decide_eq_true_eq, decide_eq_false_iff_not, beq_iff_eq, beq_eq_false_iff_ne, bne_iff_ne, bne_eq_false_iff_eq, ge_iff_le, gt_iff_lt, Int.not_lt, Int.not_le] at h1))
  · refine .chk (by ((try simp only [BT.eval, IT.eval, SV.den, SV.dens, Env.int, Env.bool, Env.val, Env.ptr, letsOf, letU, snd, List.flatMap_cons, List.flatMap_nil, List.cons_append, List.nil_append, List.append_assoc, List.getElem?_cons_zero, List.getElem?_cons_succ]); (try simp only [cm, cond_true, cond_false, pick_or, pick_and, Bool.or_eq_true, Bool.and_eq_true, Bool.or_eq_false_iff, Bool.and_eq_false_iff, Bool.not_eq_true', Bool.not_eq_false', decide_eq_true_eq, decide_eq_false_iff_not, beq_iff_eq, beq_eq_false_iff_ne, bne_iff_ne, bne_eq_false_iff_eq, ge_iff_le, gt_iff_lt, Int.not_lt, Int.not_le])); omega) (.chk (by ((try simp only [BT.eval, IT.eval, SV.den, SV.dens, Env.int, Env.bool, Env.val, Env.ptr, letsOf, letU, snd, List.flatMap_cons, List.flatMap_nil, List.cons_append, List.nil_append, List.append_assoc, List.getElem?_cons_zero, List.getElem?_cons_succ]); (try simp only [cm, cond_true, cond_false, pick_or, pick_and, Bool.or_eq_true, Bool.and_eq_true, Bool.or_eq_false_iff, Bool.and_eq_false_iff, Bool.not_eq_true', Bool.not_eq_false', decide_eq_true_eq, decide_eq_false_iff_not, beq_iff_eq, beq_eq_false_iff_ne, bne_iff_ne, bne_eq_false_iff_eq, ge_iff_le, gt_iff_lt, Int.not_lt, Int.not_le])); omega) ?_)
    obtain rfl | rfl | rfl | rfl : j = 0 ∨ j = 1 ∨ j = 2 ∨ j = 3 := by omega
    · refine (.yes rfl ?_)
      refine .alloc fun _ => .callV (b_with (1, 1) o0 v0) (fun _ => trivial) (.alloc fun _ => .callV c_p (fun _ => trivial) (.callV (b_dist (1, 1) o0 v0) (fun g => hp.mono g.R) (.callV c_p (fun _ => trivial) (.callV (b_change (1, 1) o0 v0) (fun _ => trivial) (.alloc fun _ => .callV c_p (fun _ => trivial) (.callV (b_take (1, 1) o0 v0) (fun _ => trivial) (.alloc fun _ => .callV (b_unify (1, 1) o0 v0) (fun _ => trivial) (.alloc fun _ => .callV (b_valid (1, 1) o0 v0) (fun _ => trivial) (.no rfl ?_)))))))))
      refine .env (by (try simp only [letsOf, letU, snd, List.flatMap_cons, List.flatMap_nil, List.cons_append, List.nil_append, List.append_assoc, List.append_nil]); rfl) ?_
      refine .callV (b_get (1, 1) o0 v0) (fun _ => trivial) (.no rfl (.callV (b_sat (1, 1) o0 v0) (fun _ => trivial) (.no rfl (.callV c_p (fun _ => trivial) (.callV (b_diff (1, 1) o0 v0) (fun _ => trivial) (.no rfl (.callV (b_meet (1, 1) o0 v0) (fun _ => trivial) (.no rfl (.again rfl ⟨3, by omega, false, 1, rfl, by omega, rfl⟩)))))))))
    · refine (.no rfl (.yes rfl ?_))
      refine .alloc fun _ => .callV (b_with (16777216, 0) o1 v1) (fun _ => trivial) (.alloc fun _ => .callV c_p (fun _ => trivial) (.callV (b_dist (16777216, 0) o1 v1) (fun g => hp.mono g.R) (.callV c_p (fun _ => trivial) (.callV (b_change (16777216, 0) o1 v1) (fun _ => trivial) (.alloc fun _ => .callV c_p (fun _ => trivial) (.callV (b_take (16777216, 0) o1 v1) (fun _ => trivial) (.alloc fun _ => .callV (b_unify (16777216, 0) o1 v1) (fun _ => trivial) (.alloc fun _ => .callV (b_valid (16777216, 0) o1 v1) (fun _ => trivial) (.no rfl ?_)))))))))
      refine .env (by (try simp only [letsOf, letU, snd, List.flatMap_cons, List.flatMap_nil, List.cons_append, List.nil_append, List.append_assoc, List.append_nil]); rfl) ?_
      refine .callV (b_get (16777216, 0) o1 v1) (fun _ => trivial) (.no rfl (.callV (b_sat (16777216, 0) o1 v1) (fun _ => trivial) (.no rfl (.callV c_p (fun _ => trivial) (.callV (b_diff (16777216, 0) o1 v1) (fun _ => trivial) (.no rfl (.callV (b_meet (16777216, 0) o1 v1) (fun _ => trivial) (.no rfl (.again rfl ⟨2, by omega, false, 2, rfl, by omega, rfl⟩)))))))))
    · refine (.no rfl (.no rfl (.yes rfl ?_)))
      refine .alloc fun _ => .callV (b_with (0, 2147483648) o2 v2) (fun _ => trivial) (.alloc fun _ => .callV c_p (fun _ => trivial) (.callV (b_dist (0, 2147483648) o2 v2) (fun g => hp.mono g.R) (.callV c_p (fun _ => trivial) (.callV (b_change (0, 2147483648) o2 v2) (fun _ => trivial) (.alloc fun _ => .callV c_p (fun _ => trivial) (.callV (b_take (0, 2147483648) o2 v2) (fun _ => trivial) (.alloc fun _ => .callV (b_unify (0, 2147483648) o2 v2) (fun _ => trivial) (.alloc fun _ => .callV (b_valid (0, 2147483648) o2 v2) (fun _ => trivial) (.no rfl ?_)))))))))
      refine .env (by (try simp only [letsOf, letU, snd, List.flatMap_cons, List.flatMap_nil, List.cons_append, List.nil_append, List.append_assoc, List.append_nil]); rfl) ?_
      refine .callV (b_get (0, 2147483648) o2 v2) (fun _ => trivial) (.no rfl (.callV (b_sat (0, 2147483648) o2 v2) (fun _ => trivial) (.no rfl (.callV c_p (fun _ => trivial) (.callV (b_diff (0, 2147483648) o2 v2) (fun _ => trivial) (.no rfl (.callV (b_meet (0, 2147483648) o2 v2) (fun _ => trivial) (.no rfl (.again rfl ⟨1, by omega, false, 3, rfl, by omega, rfl⟩)))))))))
    · refine (.no rfl (.no rfl (.no rfl (.yes rfl ?_))))
      refine .alloc fun _ => .callV (b_with (4294967295, 1) o3 v3) (fun _ => trivial) (.alloc fun _ => .callV c_p (fun _ => trivial) (.callV (b_dist (4294967295, 1) o3 v3) (fun g => hp.mono g.R) (.callV c_p (fun _ => trivial) (.callV (b_change (4294967295, 1) o3 v3) (fun _ => trivial) (.alloc fun _ => .callV c_p (fun _ => trivial) (.callV (b_take (4294967295, 1) o3 v3) (fun _ => trivial) (.alloc fun _ => .callV (b_unify (4294967295, 1) o3 v3) (fun _ => trivial) (.alloc fun _ => .callV (b_valid (4294967295, 1) o3 v3) (fun _ => trivial) (.no rfl ?_)))))))))
      refine .env (by (try simp only [letsOf, letU, snd, List.flatMap_cons, List.flatMap_nil, List.cons_append, List.nil_append, List.append_assoc, List.append_nil]); rfl) ?_
      refine .callV (b_get (4294967295, 1) o3 v3) (fun _ => trivial) (.no rfl (.callV (b_sat (4294967295, 1) o3 v3) (fun _ => trivial) (.no rfl (.callV c_p (fun _ => trivial) (.callV (b_diff (4294967295, 1) o3 v3) (fun _ => trivial) (.no rfl (.callV (b_meet (4294967295, 1) o3 v3) (fun _ => trivial) (.no rfl (.again rfl ⟨0, by omega, false, 4, rfl, by omega, rfl⟩)))))))))
  · refine .callV c_p (fun _ => trivial) (.callV (show Ret Tryd.prog n_feats_With [snd (2, 5), .int .i64 0, .int .i64 2] (.tuple #[snd (0, 0), .int .i64 2]) from c_with (2, 5) 0 2 okp) (fun _ => trivial) (.alloc fun _ => .callV c_p (fun _ => trivial) (.callV (show Ret Tryd.prog n_feats_With [snd (2, 5), .int .i64 (-1), .int .i64 2] (.tuple #[snd (0, 0), .int .i64 3]) from c_with (2, 5) (-1) 2 okp) (fun _ => trivial) (.alloc fun _ => ?_))))
    refine .env (by (try simp only [letsOf, letU, snd, List.flatMap_cons, List.flatMap_nil, List.cons_append, List.nil_append, List.append_assoc, List.append_nil]); rfl) ?_
    refine .callV c_p (fun _ => trivial) (.callV (show Ret Tryd.prog n_feats_Change [snd (2, 5), .int .u32 2, snd (1, 0)] (.tuple #[snd (1, 4), .int .i64 0]) from c_change (2, 5) (1, 0) 2 okp ⟨by decide, by decide⟩ (by decide)) (fun _ => trivial) (.alloc fun _ => .callV c_p (fun _ => trivial) (.callV (show Ret Tryd.prog n_feats_Change [snd (2, 5), .int .u32 1, snd (1, 0)] (.tuple #[snd (0, 0), .int .i64 2]) from c_change (2, 5) (1, 0) 1 okp ⟨by decide, by decide⟩ (by decide)) (fun _ => trivial) (.alloc fun _ => ?_))))
    refine .env (by (try simp only [letsOf, letU, snd, List.flatMap_cons, List.flatMap_nil, List.cons_append, List.nil_append, List.append_assoc, List.append_nil]); rfl) ?_
    refine .callV c_p (fun _ => trivial) (.callV c_p (fun _ => trivial) (.callV (show Ret Tryd.prog n_feats_Take [snd (2, 5), snd (2, 5), .int .u32 16777216] (.tuple #[snd (0, 0), .int .i64 2]) from c_take (2, 5) (2, 5) 16777216 okp okp (by decide)) (fun _ => trivial) (.alloc fun _ => .callV c_p (fun _ => trivial) (.callV c_p (fun _ => trivial) (.alloc fun b6 => ?_)))))
    refine .env (by (try simp only [letsOf, letU, snd, List.flatMap_cons, List.flatMap_nil, List.cons_append, List.nil_append, List.append_assoc, List.append_nil]); rfl) ?_
    refine .callV (show RetP Tryd.prog n_feats_Dist [snd (2, 5), snd (2, 5), costs (some ⟨b6, 0, none⟩) 25 25 0] (fun R => CostsAt R (some ⟨b6, 0, none⟩) (List.replicate 25 0) ∧ TabOk R) (.tuple #[.int .i64 0, .int .i64 2]) from c_dist (2, 5) (2, 5) (some ⟨b6, 0, none⟩) 25 (List.replicate 25 0) 0 okp okp) (fun g => ⟨fun i x hx => ⟨b6, 0, rfl, ?_⟩, hp.mono g.R⟩) ?_
    · rw [g.at (j := 6) rfl rfl, Nat.zero_add]; exact hx
    refine .env (by (try simp only [letsOf, letU, snd, List.flatMap_cons, List.flatMap_nil, List.cons_append, List.nil_append, List.append_assoc, List.append_nil]); rfl) ?_
    refine .callV c_p (fun _ => trivial) (.callV c_a (fun _ => trivial) (.alloc fun b7 => .callV (show RetP Tryd.prog n_feats_Dist [snd (2, 5), snd (5, 2), costs (some ⟨b7, 0, none⟩) 3 3 1073741824] (fun R => CostsAt R (some ⟨b7, 0, none⟩) [1073741824, 1073741824, 1073741824] ∧ TabOk R) (.tuple #[.int .i64 3221225472, .int .i64 0]) from c_dist (2, 5) (5, 2) (some ⟨b7, 0, none⟩) 3 [1073741824, 1073741824, 1073741824] 1073741824 okp oka) (fun g => ⟨fun i x hx => ⟨b7, 0, rfl, ?_⟩, hp.mono g.R⟩) ?_))
    · rw [g.at (j := 7) rfl rfl, Nat.zero_add]; exact hx
    refine .env (by (try simp only [letsOf, letU, snd, List.flatMap_cons, List.flatMap_nil, List.cons_append, List.nil_append, List.append_assoc, List.append_nil]); rfl) ?_
    refine .callV (show Ret Tryd.prog n_feats_Unify [snd (1, 0), snd (2, 0)] (.tuple #[snd (3, 0), .bool true]) from c_unify (1, 0) (2, 0) ⟨by decide, by decide⟩ ⟨by decide, by decide⟩) (fun _ => trivial) (.alloc fun _ => .yes rfl (.callV c_p (fun _ => trivial) (.callV c_b (fun _ => trivial) (.callV (show Ret Tryd.prog n_feats_Diff [snd (2, 5), snd (3, 4)] (.int .u32 1) from c_diff (2, 5) (3, 4) okp okb) (fun _ => trivial) (.yes rfl (.alloc fun b9 => ?_))))))
    refine .env (by (try simp only [letsOf, letU, snd, List.flatMap_cons, List.flatMap_nil, List.cons_append, List.nil_append, List.append_assoc, List.append_nil]); rfl) ?_
    refine .callV (show RetP Tryd.prog n_feats_CheckCosts [costs (some ⟨b9, 0, none⟩) 1 1 0] (fun R => CostsAt R (some ⟨b9, 0, none⟩) [-1]) (.int .i64 2) from c_checkCosts (some ⟨b9, 0, none⟩) 1 [-1] 0) (fun g i x hx => ⟨b9, 0, rfl, ?_⟩) (.yes rfl ?_)
    · rw [g.at (j := 9) rfl rfl, Nat.zero_add]; exact hx
    refine .env (by (try simp only [letsOf, letU, snd, List.flatMap_cons, List.flatMap_nil, List.cons_append, List.nil_append, List.append_assoc, List.append_nil]); rfl) ?_
    refine .callV (show RetP Tryd.prog n_feats_CheckCosts [costs none 0 0 1073741825] (fun R => CostsAt R none []) (.int .i64 2) from c_checkCosts none 0 [] 1073741825) (fun g i x hx => by simp at hx) (.yes rfl (.callV (show RetP Tryd.prog n_feats_CheckCosts [costs none 0 0 0] (fun R => CostsAt R none []) (.int .i64 0) from c_checkCosts none 0 [] 0) (fun g i x hx => by simp at hx) (.yes rfl ?_)))
    exact .callV c_works (fun g => hp.mono g.R) (.ret rfl rfl)
end Go.Proofs.YtiocflikonfefaaDoor
