/- The distance of feats; Order; the small functions of the laws; 'works'. -/
import Derived.Test.YtedfogpnmpmggaaDoorFe
set_option linter.unusedSimpArgs false
set_option linter.unusedVariables false
namespace Go.Proofs.YtedfogpnmpmggaaDoor
open Go Go.Sy Go.RowKit
theorem addW_snoc (ws : List Int) (l : List Nat) (f : Nat) : addW ws 0 (l ++ [f]) = addW ws 0 l + (ws[f]?).getD 0 := by rw [addW_append]; rfl
theorem c_dist (s t : Snd) (p : Option Addr) (cap : Nat) (ws : List Int) (gap : Int) (h : Sok s) (h' : Sok t) : RetP Tryd.prog n_feats_Dist [snd s, snd t, costs p ws.length cap gap] (fun R => CostsAt R p ws ∧ TabOk R) (.tuple #[.int .i64 (distC s t ws gap).1, .int .i64 (distC s t ws gap).2]) := by
  refine Fn.of S_feats_Dist mx [.i s.1, .i s.2, .i t.1, .i t.2, .p p, .i ws.length, .i cap, .i gap] rfl rfl fun c hp => .alloc fun _ => .alloc fun _ => .alloc fun _ => .callV (c_valid s h) (fun _ => trivial) ?_
  refine .ite (fun h1 => .ret rfl ?_) (fun h1 => .callV (c_valid t h') (fun _ => trivial) (.ite (fun h2 => .ret rfl ?_) (fun h2 => .callV (c_checkCosts p cap ws gap) (fun g => hp.1.mono g.R) (.ite (fun h3 => .ret rfl ?_) (fun h3 => .alloc fun _ => .callV (c_diff s t h h') (fun _ => trivial) ?_))))) <;> ((try simp only [BT.eval, IT.eval, SV.den, SV.dens, Env.int, Env.bool, Env.val, Env.ptr, letsOf, letU, snd, List.flatMap_cons, List.flatMap_nil, List.cons_append, List.nil_append, List.append_assoc, List.getElem?_cons_zero, List.getElem?_cons_succ] at h1); (try simp only [cm, cond_true, cond_false, pick_or, pick_and, Bool.or_eq_true, Bool.and_eq_true, Bool.or_eq_false_iff, Bool.and_eq_false_iff, Bool.not_eq_true', Bool.not_eq_false', decide_eq_true_eq, decide_eq_false_iff_not, beq_iff_eq, beq_eq_false_iff_ne, bne_iff_ne, bne_eq_false_iff_eq, ge_iff_le, gt_iff_lt, Int.not_lt, Int.not_le] at h1))
  · ((try simp only [BT.eval, IT.eval, SV.den, SV.dens, Env.int, Env.bool, Env.val, Env.ptr, letsOf, letU, snd, List.flatMap_cons, List.flatMap_nil, List.cons_append, List.nil_append, List.append_assoc, List.getElem?_cons_zero, List.getElem?_cons_succ]); (try simp only [cm, cond_true, cond_false, pick_or, pick_and, Bool.or_eq_true, Bool.and_eq_true, Bool.or_eq_false_iff, Bool.and_eq_false_iff, Bool.not_eq_true', Bool.not_eq_false', decide_eq_true_eq, decide_eq_false_iff_not, beq_iff_eq, beq_eq_false_iff_ne, bne_iff_ne, bne_eq_false_iff_eq, ge_iff_le, gt_iff_lt, Int.not_lt, Int.not_le])); simp [distC, h1]
  · ((try simp only [BT.eval, IT.eval, SV.den, SV.dens, Env.int, Env.bool, Env.val, Env.ptr, letsOf, letU, snd, List.flatMap_cons, List.flatMap_nil, List.cons_append, List.nil_append, List.append_assoc, List.getElem?_cons_zero, List.getElem?_cons_succ] at h2); (try simp only [cm, cond_true, cond_false, pick_or, pick_and, Bool.or_eq_true, Bool.and_eq_true, Bool.or_eq_false_iff, Bool.and_eq_false_iff, Bool.not_eq_true', Bool.not_eq_false', decide_eq_true_eq, decide_eq_false_iff_not, beq_iff_eq, beq_eq_false_iff_ne, bne_iff_ne, bne_eq_false_iff_eq, ge_iff_le, gt_iff_lt, Int.not_lt, Int.not_le] at h2)); ((try simp only [BT.eval, IT.eval, SV.den, SV.dens, Env.int, Env.bool, Env.val, Env.ptr, letsOf, letU, snd, List.flatMap_cons, List.flatMap_nil, List.cons_append, List.nil_append, List.append_assoc, List.getElem?_cons_zero, List.getElem?_cons_succ]); (try simp only [cm, cond_true, cond_false, pick_or, pick_and, Bool.or_eq_true, Bool.and_eq_true, Bool.or_eq_false_iff, Bool.and_eq_false_iff, Bool.not_eq_true', Bool.not_eq_false', decide_eq_true_eq, decide_eq_false_iff_not, beq_iff_eq, beq_eq_false_iff_ne, bne_iff_ne, bne_eq_false_iff_eq, ge_iff_le, gt_iff_lt, Int.not_lt, Int.not_le])); simp [distC, h2]
  · ((try simp only [BT.eval, IT.eval, SV.den, SV.dens, Env.int, Env.bool, Env.val, Env.ptr, letsOf, letU, snd, List.flatMap_cons, List.flatMap_nil, List.cons_append, List.nil_append, List.append_assoc, List.getElem?_cons_zero, List.getElem?_cons_succ] at h2 h3); (try simp only [cm, cond_true, cond_false, pick_or, pick_and, Bool.or_eq_true, Bool.and_eq_true, Bool.or_eq_false_iff, Bool.and_eq_false_iff, Bool.not_eq_true', Bool.not_eq_false', decide_eq_true_eq, decide_eq_false_iff_not, beq_iff_eq, beq_eq_false_iff_ne, bne_iff_ne, bne_eq_false_iff_eq, ge_iff_le, gt_iff_lt, Int.not_lt, Int.not_le] at h2 h3))
    ((try simp only [BT.eval, IT.eval, SV.den, SV.dens, Env.int, Env.bool, Env.val, Env.ptr, letsOf, letU, snd, List.flatMap_cons, List.flatMap_nil, List.cons_append, List.nil_append, List.append_assoc, List.getElem?_cons_zero, List.getElem?_cons_succ]); (try simp only [cm, cond_true, cond_false, pick_or, pick_and, Bool.or_eq_true, Bool.and_eq_true, Bool.or_eq_false_iff, Bool.and_eq_false_iff, Bool.not_eq_true', Bool.not_eq_false', decide_eq_true_eq, decide_eq_false_iff_not, beq_iff_eq, beq_eq_false_iff_ne, bne_iff_ne, bne_eq_false_iff_eq, ge_iff_le, gt_iff_lt, Int.not_lt, Int.not_le])); simp [distC, h1, h2, h3]
  ((try simp only [BT.eval, IT.eval, SV.den, SV.dens, Env.int, Env.bool, Env.val, Env.ptr, letsOf, letU, snd, List.flatMap_cons, List.flatMap_nil, List.cons_append, List.nil_append, List.append_assoc, List.getElem?_cons_zero, List.getElem?_cons_succ] at h2 h3); (try simp only [cm, cond_true, cond_false, pick_or, pick_and, Bool.or_eq_true, Bool.and_eq_true, Bool.or_eq_false_iff, Bool.and_eq_false_iff, Bool.not_eq_true', Bool.not_eq_false', decide_eq_true_eq, decide_eq_false_iff_not, beq_iff_eq, beq_eq_false_iff_ne, bne_iff_ne, bne_eq_false_iff_eq, ge_iff_le, gt_iff_lt, Int.not_lt, Int.not_le] at h2 h3))
  obtain ⟨c1, c2, c3, c4⟩ := checkC_zero h3
  have hD := diffS_lt s t
  refine .callM (c_features (diffS s t)) rfl rfl (fun _ => trivial) ?_
  rintro v mq hfr ⟨b, e, rfl, rfl⟩
  refine ⟨[.v _], ⟨_, rfl, rfl⟩, rfl, ?_⟩
  have hbl : ∀ k, ((bitsL (diffS s t)).take k).length ≤ 32 := fun k => by
    have := bitsL_len (diffS s t)
    simp; omega
  refine .range n_feats_features_1 #[.pointer (some ⟨b, 0, none⟩)] ((bitsL (diffS s t)).map fun f : Nat => [U.i (f : Int)]) (fun w => TabOk (Mv.of w)) (Mem.emp.upd b (.cells #[.int .u32 (diffS s t : Int)] e (0, 0))) Mem.emp
    (fun k us m' => us = [.i (addW ws 0 ((bitsL (diffS s t)).take k))] ∧ m' = Mem.emp) (fun _ _ _ => False) rfl (by kernel_rfl) rfl (fun b hb => absurd rfl hb) (fun ux hx => ?_) ?_ ⟨rfl, rfl⟩ (fun k us m' w _ hw => (hp.2.mono fun b o v hv => c.ok w b o v hw.hold.1 hv)) ?_ ?_ (fun _ _ _ _ _ hE => hE.elim)
  · obtain ⟨f, _, rfl⟩ := List.mem_map.1 hx; rfl
  · have := it_features (diffS s t) b e (by omega)
    rw [List.map_map]
    exact this
  · rintro k us ux m' _ hx ⟨rfl, rfl⟩
    rw [List.getElem?_map, Option.map_eq_some_iff] at hx
    obtain ⟨f, hf, rfl⟩ := hx
    have hk : k < (bitsL (diffS s t)).length := (List.getElem?_eq_some_iff.1 hf).1
    have hsn := addW_snoc ws ((bitsL (diffS s t)).take k) f
    have htk : (bitsL (diffS s t)).take (k + 1) = (bitsL (diffS s t)).take k ++ [f] := by
      rw [List.take_succ_eq_append_getElem hk, (List.getElem?_eq_some_iff.1 hf).2]
    rw [← htk] at hsn
    have b1 := addW_bound ws c4 ((bitsL (diffS s t)).take k)
    have b2 := hbl k
    refine .chk (by ((try simp only [BT.eval, IT.eval, SV.den, SV.dens, Env.int, Env.bool, Env.val, Env.ptr, letsOf, letU, snd, List.flatMap_cons, List.flatMap_nil, List.cons_append, List.nil_append, List.append_assoc, List.getElem?_cons_zero, List.getElem?_cons_succ]); (try simp only [cm, cond_true, cond_false, pick_or, pick_and, Bool.or_eq_true, Bool.and_eq_true, Bool.or_eq_false_iff, Bool.and_eq_false_iff, Bool.not_eq_true', Bool.not_eq_false', decide_eq_true_eq, decide_eq_false_iff_not, beq_iff_eq, beq_eq_false_iff_ne, bne_iff_ne, bne_eq_false_iff_eq, ge_iff_le, gt_iff_lt, Int.not_lt, Int.not_le])); omega) (.ite (fun h5 => ?_) (fun h5 => .leave (.inl ⟨rfl, ?_, rfl⟩))) <;> ((try simp only [BT.eval, IT.eval, SV.den, SV.dens, Env.int, Env.bool, Env.val, Env.ptr, letsOf, letU, snd, List.flatMap_cons, List.flatMap_nil, List.cons_append, List.nil_append, List.append_assoc, List.getElem?_cons_zero, List.getElem?_cons_succ] at h5); (try simp only [cm, cond_true, cond_false, pick_or, pick_and, Bool.or_eq_true, Bool.and_eq_true, Bool.or_eq_false_iff, Bool.and_eq_false_iff, Bool.not_eq_true', Bool.not_eq_false', decide_eq_true_eq, decide_eq_false_iff_not, beq_iff_eq, beq_eq_false_iff_ne, bne_iff_ne, bne_eq_false_iff_eq, ge_iff_le, gt_iff_lt, Int.not_lt, Int.not_le] at h5))
    · have hj : f < ws.length := by omega
      have bj := c4 ws[f] (List.getElem_mem hj)
      obtain ⟨b', o, hpe⟩ := hp.1.some (i := f) (by simpa using hj)
      refine .chk (by ((try simp only [BT.eval, IT.eval, SV.den, SV.dens, Env.int, Env.bool, Env.val, Env.ptr, letsOf, letU, snd, List.flatMap_cons, List.flatMap_nil, List.cons_append, List.nil_append, List.append_assoc, List.getElem?_cons_zero, List.getElem?_cons_succ]); (try simp only [cm, cond_true, cond_false, pick_or, pick_and, Bool.or_eq_true, Bool.and_eq_true, Bool.or_eq_false_iff, Bool.and_eq_false_iff, Bool.not_eq_true', Bool.not_eq_false', decide_eq_true_eq, decide_eq_false_iff_not, beq_iff_eq, beq_eq_false_iff_ne, bne_iff_ne, bne_eq_false_iff_eq, ge_iff_le, gt_iff_lt, Int.not_lt, Int.not_le])); simp [hpe]; omega) (.load1 (.int .i64 ws[f]) p (ws.map (.int .i64)) f rfl (by ((try simp only [BT.eval, IT.eval, SV.den, SV.dens, Env.int, Env.bool, Env.val, Env.ptr, letsOf, letU, snd, List.flatMap_cons, List.flatMap_nil, List.cons_append, List.nil_append, List.append_assoc, List.getElem?_cons_zero, List.getElem?_cons_succ]); (try simp only [cm, cond_true, cond_false, pick_or, pick_and, Bool.or_eq_true, Bool.and_eq_true, Bool.or_eq_false_iff, Bool.and_eq_false_iff, Bool.not_eq_true', Bool.not_eq_false', decide_eq_true_eq, decide_eq_false_iff_not, beq_iff_eq, beq_eq_false_iff_ne, bne_iff_ne, bne_eq_false_iff_eq, ge_iff_le, gt_iff_lt, Int.not_lt, Int.not_le])); simp) (fun g => hp.1.mono g.R) (by simp [hj]) (.leave (.inl ⟨rfl, ?_, rfl⟩)))
      show [U.i (ar .add .i64 (addW ws 0 ((bitsL (diffS s t)).take k)) ws[f])] = _
      rw [addI (by omega) (by omega), hsn, List.getElem?_eq_getElem hj]; rfl
    · show [U.i (addW ws 0 ((bitsL (diffS s t)).take k))] = _
      rw [hsn, List.getElem?_eq_none (by omega)]; simp
  · rintro us m' _ ⟨rfl, rfl⟩
    refine .ret rfl ?_
    rw [List.length_map, List.take_length, addW_bitsL _ _ (by omega)]
    ((try simp only [BT.eval, IT.eval, SV.den, SV.dens, Env.int, Env.bool, Env.val, Env.ptr, letsOf, letU, snd, List.flatMap_cons, List.flatMap_nil, List.cons_append, List.nil_append, List.append_assoc, List.getElem?_cons_zero, List.getElem?_cons_succ]); (try simp only [cm, cond_true, cond_false, pick_or, pick_and, Bool.or_eq_true, Bool.and_eq_true, Bool.or_eq_false_iff, Bool.and_eq_false_iff, Bool.not_eq_true', Bool.not_eq_false', decide_eq_true_eq, decide_eq_false_iff_not, beq_iff_eq, beq_eq_false_iff_ne, bne_iff_ne, bne_eq_false_iff_eq, ge_iff_le, gt_iff_lt, Int.not_lt, Int.not_le])); simp [distC, h1, h2, h3]
/-! Order. -/
def orI : List Int → Int
  | [] => 0
  | x :: l => if x ≠ 0 then x else orI l
theorem orI_drop (l : List Int) (j : Nat) (h : ∀ x ∈ l.take j, x = 0) : orI l = orI (l.drop j) := by
  induction l generalizing j with
  | nil => simp
  | cons x l ih =>
    cases j with
    | zero => rfl
    | succ j =>
      have hx : x = 0 := h x (by simp)
      simp only [orI, hx, List.drop_succ_cons]
      exact ih j fun y hy => h y (by simp [hy])
end Go.Proofs.YtedfogpnmpmggaaDoor
