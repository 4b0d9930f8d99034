/- The small functions of the laws of chapter 17; 'works'. -/
import Derived.Test.YtedfogpnmpmggaaDoorGg
import Derived.Test.YtedfogpnmpmggaaDoorTc
set_option linter.unusedSimpArgs false
set_option linter.unusedVariables false
namespace Go.Sy
open Go Go.RowKit
theorem Good.cells {c : Cx} {L : List Nat} {ρ : Env} {blks : List Blk} {m : Mem} (g : Good c L m) {j b o : Nat} {k : Blk} {xs : List Value} (h1 : L[j]? = some b) (h2 : blks[j]? = some k) (h : ((SV.dens L ρ k.cells).drop o).take xs.length = xs) : Cells (vw c L ρ blks m) (some ⟨b, o, none⟩) xs := fun i x hx => by
  refine ⟨b, o, rfl, ?_⟩
  rw [g.at h1 h2]
  rw [← h, List.getElem?_take] at hx
  split at hx
  · rw [List.getElem?_drop] at hx; exact hx
  · cases hx
theorem Mem.join_new {m mq : Mem} {b : Nat} (h : m b = none) : m.join mq b = mq b := by unfold Mem.join; rw [h]
theorem cells_of_mem {c : Cx} {L : List Nat} {ρ : Env} {blks : List Blk} {m : Mem} (g : Good c L m) {b : Nat} {xs : List Value} {e : TypeId} (h : m b = some (.cells xs.toArray e (0, 0))) : Cells (vw c L ρ blks m) (some ⟨b, 0, none⟩) xs := fun i x hx => ⟨b, 0, rfl, by rw [vw_mem g h, Nat.zero_add]; simpa using hx⟩
/-- Are two lists equal? By their parts. -/
theorem take_all {α : Type} [DecidableEq α] {a b : List α} (hl : a.length = b.length) (h : a.take a.length = b.take a.length) : a = b := by
  rw [List.take_of_length_le (Nat.le_refl _), List.take_of_length_le (by omega)] at h; exact h
end Go.Sy
namespace Go.Proofs.YtedfogpnmpmggaaDoor
open Go Go.Sy Go.RowKit
theorem c_p17 : Ret Tryd.prog n_law17_p [] (snd (2, 5)) := Fn.of S_law17_p mx [] rfl rfl fun _ _ => .alloc fun _ => .ret rfl rfl
theorem c_a17 : Ret Tryd.prog n_law17_a [] (snd (5, 2)) := Fn.of S_law17_a mx [] rfl rfl fun _ _ => .alloc fun _ => .ret rfl rfl
theorem c_b17 : Ret Tryd.prog n_law17_b [] (snd (3, 4)) := Fn.of S_law17_b mx [] rfl rfl fun _ _ => .alloc fun _ => .ret rfl rfl
theorem c_cost : FnM Tryd.prog n_law17_cost [] (fun _ => True) fun v mq _ => ∃ b e, v = costs (some ⟨b, 0, none⟩) 3 3 3 ∧ mq b = some (.cells ([2, 3, 4].map (Value.int .i64)).toArray e (0, 0)) :=
  FnM.of S_law17_cost mx [] rfl rfl fun c _ => .alloc fun b0 => .alloc fun b1 => .retL rfl fun g => ⟨b1, 2, rfl, by rw [blkMem_at (j := 1) (b := b1) g.nd rfl rfl]; rfl⟩
theorem pairs_eq {s t : Int × Int} : (s.1 = t.1 ∧ s.2 = t.2) ↔ s = t := ⟨fun h => Prod.ext h.1 h.2, fun h => by rw [h]; exact ⟨rfl, rfl⟩⟩
theorem take_succ_eq {α : Type} {a b : List α} {j : Nat} (ha : j < a.length) (hb : j < b.length) (h : a.take j = b.take j) : a.take (j + 1) = b.take (j + 1) ↔ a[j] = b[j] := by
  rw [List.take_succ_eq_append_getElem ha, List.take_succ_eq_append_getElem hb, h, List.append_right_inj]
  simp
theorem c_same (p q : Option Addr) (ca cb : Nat) (a b : List (Int × Int)) (hla : a.length < 2 ^ 62) : RetP Tryd.prog n_law17_same [slv p a.length ca, slv q b.length cb] (fun R => Cells R p (pcells a) ∧ Cells R q (pcells b)) (.bool (decide (a = b))) := by
  refine Fn.of S_law17_same mx [.p p, .i a.length, .i ca, .p q, .i b.length, .i cb] rfl rfl fun c hp => .chk (by ((try simp only [BT.eval, IT.eval, SV.den, SV.dens, Env.int, Env.bool, Env.val, Env.ptr, letsOf, letU, snd, List.flatMap_cons, List.flatMap_nil, List.cons_append, List.nil_append, List.append_assoc, List.getElem?_cons_zero, List.getElem?_cons_succ]); (try simp only [cm, cond_true, cond_false, pick_or, pick_and, Bool.or_eq_true, Bool.and_eq_true, Bool.or_eq_false_iff, Bool.and_eq_false_iff, Bool.not_eq_true', Bool.not_eq_false', decide_eq_true_eq, decide_eq_false_iff_not, beq_iff_eq, beq_eq_false_iff_ne, bne_iff_ne, bne_eq_false_iff_eq, ge_iff_le, gt_iff_lt, Int.not_lt, Int.not_le])); omega) (.chk (by ((try simp only [BT.eval, IT.eval, SV.den, SV.dens, Env.int, Env.bool, Env.val, Env.ptr, letsOf, letU, snd, List.flatMap_cons, List.flatMap_nil, List.cons_append, List.nil_append, List.append_assoc, List.getElem?_cons_zero, List.getElem?_cons_succ]); (try simp only [cm, cond_true, cond_false, pick_or, pick_and, Bool.or_eq_true, Bool.and_eq_true, Bool.or_eq_false_iff, Bool.and_eq_false_iff, Bool.not_eq_true', Bool.not_eq_false', decide_eq_true_eq, decide_eq_false_iff_not, beq_iff_eq, beq_eq_false_iff_ne, bne_iff_ne, bne_eq_false_iff_eq, ge_iff_le, gt_iff_lt, Int.not_lt, Int.not_le])); omega) (.ite (fun h1 => .ret rfl ?_) (fun h1 => ?_))) <;> ((try simp only [BT.eval, IT.eval, SV.den, SV.dens, Env.int, Env.bool, Env.val, Env.ptr, letsOf, letU, snd, List.flatMap_cons, List.flatMap_nil, List.cons_append, List.nil_append, List.append_assoc, List.getElem?_cons_zero, List.getElem?_cons_succ] at h1); (try simp only [cm, cond_true, cond_false, pick_or, pick_and, Bool.or_eq_true, Bool.and_eq_true, Bool.or_eq_false_iff, Bool.and_eq_false_iff, Bool.not_eq_true', Bool.not_eq_false', decide_eq_true_eq, decide_eq_false_iff_not, beq_iff_eq, beq_eq_false_iff_ne, bne_iff_ne, bne_eq_false_iff_eq, ge_iff_le, gt_iff_lt, Int.not_lt, Int.not_le] at h1))
  · have : ¬ a = b := fun e => by rw [e] at h1; simp at h1
    ((try simp only [BT.eval, IT.eval, SV.den, SV.dens, Env.int, Env.bool, Env.val, Env.ptr, letsOf, letU, snd, List.flatMap_cons, List.flatMap_nil, List.cons_append, List.nil_append, List.append_assoc, List.getElem?_cons_zero, List.getElem?_cons_succ]); (try simp only [cm, cond_true, cond_false, pick_or, pick_and, Bool.or_eq_true, Bool.and_eq_true, Bool.or_eq_false_iff, Bool.and_eq_false_iff, Bool.not_eq_true', Bool.not_eq_false', decide_eq_true_eq, decide_eq_false_iff_not, beq_iff_eq, beq_eq_false_iff_ne, bne_iff_ne, bne_eq_false_iff_eq, ge_iff_le, gt_iff_lt, Int.not_lt, Int.not_le])); simp [this]
  have hl : a.length = b.length := by omega
  refine .loop (fun n us _ => ∃ (r : Bool) (j : Nat), us = [.b r, .i j] ∧ n + j = a.length ∧ a.take j = b.take j) a.length ⟨false, 0, rfl, rfl, rfl⟩ ?_
  rintro n _ m _ ⟨r, j, rfl, hn, ht⟩
  refine .chk (by ((try simp only [BT.eval, IT.eval, SV.den, SV.dens, Env.int, Env.bool, Env.val, Env.ptr, letsOf, letU, snd, List.flatMap_cons, List.flatMap_nil, List.cons_append, List.nil_append, List.append_assoc, List.getElem?_cons_zero, List.getElem?_cons_succ]); (try simp only [cm, cond_true, cond_false, pick_or, pick_and, Bool.or_eq_true, Bool.and_eq_true, Bool.or_eq_false_iff, Bool.and_eq_false_iff, Bool.not_eq_true', Bool.not_eq_false', decide_eq_true_eq, decide_eq_false_iff_not, beq_iff_eq, beq_eq_false_iff_ne, bne_iff_ne, bne_eq_false_iff_eq, ge_iff_le, gt_iff_lt, Int.not_lt, Int.not_le])); omega) (.ite (fun h2 => ?_) (fun h2 => .ret rfl ?_)) <;> ((try simp only [BT.eval, IT.eval, SV.den, SV.dens, Env.int, Env.bool, Env.val, Env.ptr, letsOf, letU, snd, List.flatMap_cons, List.flatMap_nil, List.cons_append, List.nil_append, List.append_assoc, List.getElem?_cons_zero, List.getElem?_cons_succ] at h2); (try simp only [cm, cond_true, cond_false, pick_or, pick_and, Bool.or_eq_true, Bool.and_eq_true, Bool.or_eq_false_iff, Bool.and_eq_false_iff, Bool.not_eq_true', Bool.not_eq_false', decide_eq_true_eq, decide_eq_false_iff_not, beq_iff_eq, beq_eq_false_iff_ne, bne_iff_ne, bne_eq_false_iff_eq, ge_iff_le, gt_iff_lt, Int.not_lt, Int.not_le] at h2))
  · have ha : j < a.length := by omega
    have hb : j < b.length := by omega
    have hiff := take_succ_eq ha hb ht
    refine .loadP a j ha (fun g => hp.1.mono g.R) (.loadP b j hb (fun g => hp.2.mono g.R) (.ite (fun h3 => .ret rfl ?_) (fun h3 => .again rfl ⟨n - 1, by omega, r, j + 1, ?_, by omega, hiff.2 ?_⟩))) <;> ((try simp only [BT.eval, IT.eval, SV.den, SV.dens, Env.int, Env.bool, Env.val, Env.ptr, letsOf, letU, snd, List.flatMap_cons, List.flatMap_nil, List.cons_append, List.nil_append, List.append_assoc, List.getElem?_cons_zero, List.getElem?_cons_succ] at h3); (try simp only [cm, cond_true, cond_false, pick_or, pick_and, Bool.or_eq_true, Bool.and_eq_true, Bool.or_eq_false_iff, Bool.and_eq_false_iff, Bool.not_eq_true', Bool.not_eq_false', decide_eq_true_eq, decide_eq_false_iff_not, beq_iff_eq, beq_eq_false_iff_ne, bne_iff_ne, bne_eq_false_iff_eq, ge_iff_le, gt_iff_lt, Int.not_lt, Int.not_le] at h3))
    · have : ¬ a = b := fun e => by subst e; simp at h3
      ((try simp only [BT.eval, IT.eval, SV.den, SV.dens, Env.int, Env.bool, Env.val, Env.ptr, letsOf, letU, snd, List.flatMap_cons, List.flatMap_nil, List.cons_append, List.nil_append, List.append_assoc, List.getElem?_cons_zero, List.getElem?_cons_succ]); (try simp only [cm, cond_true, cond_false, pick_or, pick_and, Bool.or_eq_true, Bool.and_eq_true, Bool.or_eq_false_iff, Bool.and_eq_false_iff, Bool.not_eq_true', Bool.not_eq_false', decide_eq_true_eq, decide_eq_false_iff_not, beq_iff_eq, beq_eq_false_iff_ne, bne_iff_ne, bne_eq_false_iff_eq, ge_iff_le, gt_iff_lt, Int.not_lt, Int.not_le])); simp [this]
    · (simp only [letsOf, letU, snd, List.flatMap_cons, List.flatMap_nil, Sh.uss, Sh.us, IT.eval, BT.eval, SV.den, SV.dens, Env.int, Env.bool, Env.val, Env.ptr, atAddr, map_add0, List.append_assoc, List.cons_append, List.nil_append, List.append_nil, List.getElem?_cons_zero, List.getElem?_cons_succ]); rw [add_i64 j (by omega)]
    · exact pairs_eq.1 h3
  · have := take_all hl (by rw [show a.length = j by omega]; exact ht)
    ((try simp only [BT.eval, IT.eval, SV.den, SV.dens, Env.int, Env.bool, Env.val, Env.ptr, letsOf, letU, snd, List.flatMap_cons, List.flatMap_nil, List.cons_append, List.nil_append, List.append_assoc, List.getElem?_cons_zero, List.getElem?_cons_succ]); (try simp only [cm, cond_true, cond_false, pick_or, pick_and, Bool.or_eq_true, Bool.and_eq_true, Bool.or_eq_false_iff, Bool.and_eq_false_iff, Bool.not_eq_true', Bool.not_eq_false', decide_eq_true_eq, decide_eq_false_iff_not, beq_iff_eq, beq_eq_false_iff_ne, bne_iff_ne, bne_eq_false_iff_eq, ge_iff_le, gt_iff_lt, Int.not_lt, Int.not_le])); simp [this]
theorem c_equal (p q : Option Addr) (ca cb : Nat) (a b : List Snd) (hla : a.length < 2 ^ 62) : RetP Tryd.prog n_law17_equal [slv p a.length ca, slv q b.length cb] (fun R => WordAt R p a ∧ WordAt R q b) (.bool (decide (a = b))) := by
  refine Fn.of S_law17_equal mx [.p p, .i a.length, .i ca, .p q, .i b.length, .i cb] rfl rfl fun c hp => .chk (by ((try simp only [BT.eval, IT.eval, SV.den, SV.dens, Env.int, Env.bool, Env.val, Env.ptr, letsOf, letU, snd, List.flatMap_cons, List.flatMap_nil, List.cons_append, List.nil_append, List.append_assoc, List.getElem?_cons_zero, List.getElem?_cons_succ]); (try simp only [cm, cond_true, cond_false, pick_or, pick_and, Bool.or_eq_true, Bool.and_eq_true, Bool.or_eq_false_iff, Bool.and_eq_false_iff, Bool.not_eq_true', Bool.not_eq_false', decide_eq_true_eq, decide_eq_false_iff_not, beq_iff_eq, beq_eq_false_iff_ne, bne_iff_ne, bne_eq_false_iff_eq, ge_iff_le, gt_iff_lt, Int.not_lt, Int.not_le])); omega) (.chk (by ((try simp only [BT.eval, IT.eval, SV.den, SV.dens, Env.int, Env.bool, Env.val, Env.ptr, letsOf, letU, snd, List.flatMap_cons, List.flatMap_nil, List.cons_append, List.nil_append, List.append_assoc, List.getElem?_cons_zero, List.getElem?_cons_succ]); (try simp only [cm, cond_true, cond_false, pick_or, pick_and, Bool.or_eq_true, Bool.and_eq_true, Bool.or_eq_false_iff, Bool.and_eq_false_iff, Bool.not_eq_true', Bool.not_eq_false', decide_eq_true_eq, decide_eq_false_iff_not, beq_iff_eq, beq_eq_false_iff_ne, bne_iff_ne, bne_eq_false_iff_eq, ge_iff_le, gt_iff_lt, Int.not_lt, Int.not_le])); omega) (.ite (fun h1 => .ret rfl ?_) (fun h1 => ?_))) <;> ((try simp only [BT.eval, IT.eval, SV.den, SV.dens, Env.int, Env.bool, Env.val, Env.ptr, letsOf, letU, snd, List.flatMap_cons, List.flatMap_nil, List.cons_append, List.nil_append, List.append_assoc, List.getElem?_cons_zero, List.getElem?_cons_succ] at h1); (try simp only [cm, cond_true, cond_false, pick_or, pick_and, Bool.or_eq_true, Bool.and_eq_true, Bool.or_eq_false_iff, Bool.and_eq_false_iff, Bool.not_eq_true', Bool.not_eq_false', decide_eq_true_eq, decide_eq_false_iff_not, beq_iff_eq, beq_eq_false_iff_ne, bne_iff_ne, bne_eq_false_iff_eq, ge_iff_le, gt_iff_lt, Int.not_lt, Int.not_le] at h1))
  · have : ¬ a = b := fun e => by rw [e] at h1; simp at h1
    ((try simp only [BT.eval, IT.eval, SV.den, SV.dens, Env.int, Env.bool, Env.val, Env.ptr, letsOf, letU, snd, List.flatMap_cons, List.flatMap_nil, List.cons_append, List.nil_append, List.append_assoc, List.getElem?_cons_zero, List.getElem?_cons_succ]); (try simp only [cm, cond_true, cond_false, pick_or, pick_and, Bool.or_eq_true, Bool.and_eq_true, Bool.or_eq_false_iff, Bool.and_eq_false_iff, Bool.not_eq_true', Bool.not_eq_false', decide_eq_true_eq, decide_eq_false_iff_not, beq_iff_eq, beq_eq_false_iff_ne, bne_iff_ne, bne_eq_false_iff_eq, ge_iff_le, gt_iff_lt, Int.not_lt, Int.not_le])); simp [this]
  have hl : a.length = b.length := by omega
  refine .loop (fun n us _ => ∃ (r : Bool) (j : Nat), us = [.b r, .i j] ∧ n + j = a.length ∧ a.take j = b.take j) a.length ⟨false, 0, rfl, rfl, rfl⟩ ?_
  rintro n _ m _ ⟨r, j, rfl, hn, ht⟩
  refine .chk (by ((try simp only [BT.eval, IT.eval, SV.den, SV.dens, Env.int, Env.bool, Env.val, Env.ptr, letsOf, letU, snd, List.flatMap_cons, List.flatMap_nil, List.cons_append, List.nil_append, List.append_assoc, List.getElem?_cons_zero, List.getElem?_cons_succ]); (try simp only [cm, cond_true, cond_false, pick_or, pick_and, Bool.or_eq_true, Bool.and_eq_true, Bool.or_eq_false_iff, Bool.and_eq_false_iff, Bool.not_eq_true', Bool.not_eq_false', decide_eq_true_eq, decide_eq_false_iff_not, beq_iff_eq, beq_eq_false_iff_ne, bne_iff_ne, bne_eq_false_iff_eq, ge_iff_le, gt_iff_lt, Int.not_lt, Int.not_le])); omega) (.ite (fun h2 => ?_) (fun h2 => .ret rfl ?_)) <;> ((try simp only [BT.eval, IT.eval, SV.den, SV.dens, Env.int, Env.bool, Env.val, Env.ptr, letsOf, letU, snd, List.flatMap_cons, List.flatMap_nil, List.cons_append, List.nil_append, List.append_assoc, List.getElem?_cons_zero, List.getElem?_cons_succ] at h2); (try simp only [cm, cond_true, cond_false, pick_or, pick_and, Bool.or_eq_true, Bool.and_eq_true, Bool.or_eq_false_iff, Bool.and_eq_false_iff, Bool.not_eq_true', Bool.not_eq_false', decide_eq_true_eq, decide_eq_false_iff_not, beq_iff_eq, beq_eq_false_iff_ne, bne_iff_ne, bne_eq_false_iff_eq, ge_iff_le, gt_iff_lt, Int.not_lt, Int.not_le] at h2))
  · have ha : j < a.length := by omega
    have hb : j < b.length := by omega
    have hiff := take_succ_eq ha hb ht
    refine .loadW a j ha (fun g => hp.1.mono g.R) (.loadW b j hb (fun g => hp.2.mono g.R) (.ite (fun h3 => .ret rfl ?_) (fun h3 => .again rfl ⟨n - 1, by omega, r, j + 1, ?_, by omega, hiff.2 ?_⟩))) <;> ((try simp only [BT.eval, IT.eval, SV.den, SV.dens, Env.int, Env.bool, Env.val, Env.ptr, letsOf, letU, snd, List.flatMap_cons, List.flatMap_nil, List.cons_append, List.nil_append, List.append_assoc, List.getElem?_cons_zero, List.getElem?_cons_succ] at h3); (try simp only [cm, cond_true, cond_false, pick_or, pick_and, Bool.or_eq_true, Bool.and_eq_true, Bool.or_eq_false_iff, Bool.and_eq_false_iff, Bool.not_eq_true', Bool.not_eq_false', decide_eq_true_eq, decide_eq_false_iff_not, beq_iff_eq, beq_eq_false_iff_ne, bne_iff_ne, bne_eq_false_iff_eq, ge_iff_le, gt_iff_lt, Int.not_lt, Int.not_le] at h3))
    · have : ¬ a = b := fun e => by subst e; simp at h3
      ((try simp only [BT.eval, IT.eval, SV.den, SV.dens, Env.int, Env.bool, Env.val, Env.ptr, letsOf, letU, snd, List.flatMap_cons, List.flatMap_nil, List.cons_append, List.nil_append, List.append_assoc, List.getElem?_cons_zero, List.getElem?_cons_succ]); (try simp only [cm, cond_true, cond_false, pick_or, pick_and, Bool.or_eq_true, Bool.and_eq_true, Bool.or_eq_false_iff, Bool.and_eq_false_iff, Bool.not_eq_true', Bool.not_eq_false', decide_eq_true_eq, decide_eq_false_iff_not, beq_iff_eq, beq_eq_false_iff_ne, bne_iff_ne, bne_eq_false_iff_eq, ge_iff_le, gt_iff_lt, Int.not_lt, Int.not_le])); simp [this]
    · (simp only [letsOf, letU, snd, List.flatMap_cons, List.flatMap_nil, Sh.uss, Sh.us, IT.eval, BT.eval, SV.den, SV.dens, Env.int, Env.bool, Env.val, Env.ptr, atAddr, map_add0, List.append_assoc, List.cons_append, List.nil_append, List.append_nil, List.getElem?_cons_zero, List.getElem?_cons_succ]); rw [add_i64 j (by omega)]
    · exact snd_eq.1 h3
  · have := take_all hl (by rw [show a.length = j by omega]; exact ht)
    ((try simp only [BT.eval, IT.eval, SV.den, SV.dens, Env.int, Env.bool, Env.val, Env.ptr, letsOf, letU, snd, List.flatMap_cons, List.flatMap_nil, List.cons_append, List.nil_append, List.append_assoc, List.getElem?_cons_zero, List.getElem?_cons_succ]); (try simp only [cm, cond_true, cond_false, pick_or, pick_and, Bool.or_eq_true, Bool.and_eq_true, Bool.or_eq_false_iff, Bool.and_eq_false_iff, Bool.not_eq_true', Bool.not_eq_false', decide_eq_true_eq, decide_eq_false_iff_not, beq_iff_eq, beq_eq_false_iff_ne, bne_iff_ne, bne_eq_false_iff_eq, ge_iff_le, gt_iff_lt, Int.not_lt, Int.not_le])); simp [this]
theorem c_light (A B : WD) (pc : Option Addr) (cc n : Nat) (gap : Int) : Ret Tryd.prog n_law17_light [.agg #[A.v, B.v, slv pc n cc, .int .i64 gap]] (.bool (decide (A.w.length ≤ 50 ∧ B.w.length ≤ 50 ∧ n ≤ 50))) := by
  refine Fn.of S_law17_light mx [.p A.p, .i A.w.length, .i A.cap, .p B.p, .i B.w.length, .i B.cap, .p pc, .i n, .i cc, .i gap] rfl rfl fun c _ => .alloc fun _ => .chk (by ((try simp only [BT.eval, IT.eval, SV.den, SV.dens, Env.int, Env.bool, Env.val, Env.ptr, letsOf, letU, snd, List.flatMap_cons, List.flatMap_nil, List.cons_append, List.nil_append, List.append_assoc, List.getElem?_cons_zero, List.getElem?_cons_succ]); (try simp only [cm, cond_true, cond_false, pick_or, pick_and, Bool.or_eq_true, Bool.and_eq_true, Bool.or_eq_false_iff, Bool.and_eq_false_iff, Bool.not_eq_true', Bool.not_eq_false', decide_eq_true_eq, decide_eq_false_iff_not, beq_iff_eq, beq_eq_false_iff_ne, bne_iff_ne, bne_eq_false_iff_eq, ge_iff_le, gt_iff_lt, Int.not_lt, Int.not_le])); omega) (.ite (fun h1 => .chk (by ((try simp only [BT.eval, IT.eval, SV.den, SV.dens, Env.int, Env.bool, Env.val, Env.ptr, letsOf, letU, snd, List.flatMap_cons, List.flatMap_nil, List.cons_append, List.nil_append, List.append_assoc, List.getElem?_cons_zero, List.getElem?_cons_succ]); (try simp only [cm, cond_true, cond_false, pick_or, pick_and, Bool.or_eq_true, Bool.and_eq_true, Bool.or_eq_false_iff, Bool.and_eq_false_iff, Bool.not_eq_true', Bool.not_eq_false', decide_eq_true_eq, decide_eq_false_iff_not, beq_iff_eq, beq_eq_false_iff_ne, bne_iff_ne, bne_eq_false_iff_eq, ge_iff_le, gt_iff_lt, Int.not_lt, Int.not_le])); omega) (.ite (fun h2 => .chk (by ((try simp only [BT.eval, IT.eval, SV.den, SV.dens, Env.int, Env.bool, Env.val, Env.ptr, letsOf, letU, snd, List.flatMap_cons, List.flatMap_nil, List.cons_append, List.nil_append, List.append_assoc, List.getElem?_cons_zero, List.getElem?_cons_succ]); (try simp only [cm, cond_true, cond_false, pick_or, pick_and, Bool.or_eq_true, Bool.and_eq_true, Bool.or_eq_false_iff, Bool.and_eq_false_iff, Bool.not_eq_true', Bool.not_eq_false', decide_eq_true_eq, decide_eq_false_iff_not, beq_iff_eq, beq_eq_false_iff_ne, bne_iff_ne, bne_eq_false_iff_eq, ge_iff_le, gt_iff_lt, Int.not_lt, Int.not_le])); omega) (.ret rfl ?_)) (fun h2 => .ret rfl ?_))) (fun h1 => .ret rfl ?_)) <;> ((try simp only [BT.eval, IT.eval, SV.den, SV.dens, Env.int, Env.bool, Env.val, Env.ptr, letsOf, letU, snd, List.flatMap_cons, List.flatMap_nil, List.cons_append, List.nil_append, List.append_assoc, List.getElem?_cons_zero, List.getElem?_cons_succ] at h1); (try simp only [cm, cond_true, cond_false, pick_or, pick_and, Bool.or_eq_true, Bool.and_eq_true, Bool.or_eq_false_iff, Bool.and_eq_false_iff, Bool.not_eq_true', Bool.not_eq_false', decide_eq_true_eq, decide_eq_false_iff_not, beq_iff_eq, beq_eq_false_iff_ne, bne_iff_ne, bne_eq_false_iff_eq, ge_iff_le, gt_iff_lt, Int.not_lt, Int.not_le] at h1))
  · ((try simp only [BT.eval, IT.eval, SV.den, SV.dens, Env.int, Env.bool, Env.val, Env.ptr, letsOf, letU, snd, List.flatMap_cons, List.flatMap_nil, List.cons_append, List.nil_append, List.append_assoc, List.getElem?_cons_zero, List.getElem?_cons_succ] at h2); (try simp only [cm, cond_true, cond_false, pick_or, pick_and, Bool.or_eq_true, Bool.and_eq_true, Bool.or_eq_false_iff, Bool.and_eq_false_iff, Bool.not_eq_true', Bool.not_eq_false', decide_eq_true_eq, decide_eq_false_iff_not, beq_iff_eq, beq_eq_false_iff_ne, bne_iff_ne, bne_eq_false_iff_eq, ge_iff_le, gt_iff_lt, Int.not_lt, Int.not_le] at h2))
    ((try simp only [BT.eval, IT.eval, SV.den, SV.dens, Env.int, Env.bool, Env.val, Env.ptr, letsOf, letU, snd, List.flatMap_cons, List.flatMap_nil, List.cons_append, List.nil_append, List.append_assoc, List.getElem?_cons_zero, List.getElem?_cons_succ]); (try simp only [cm, cond_true, cond_false, pick_or, pick_and, Bool.or_eq_true, Bool.and_eq_true, Bool.or_eq_false_iff, Bool.and_eq_false_iff, Bool.not_eq_true', Bool.not_eq_false', decide_eq_true_eq, decide_eq_false_iff_not, beq_iff_eq, beq_eq_false_iff_ne, bne_iff_ne, bne_eq_false_iff_eq, ge_iff_le, gt_iff_lt, Int.not_lt, Int.not_le])); rw [show ((decide ((n : Int) ≤ 50)) : Bool) = decide (n ≤ 50) by rw [Bool.eq_iff_iff]; simp; omega]
    simp [show A.w.length ≤ 50 by omega, show B.w.length ≤ 50 by omega]
  · ((try simp only [BT.eval, IT.eval, SV.den, SV.dens, Env.int, Env.bool, Env.val, Env.ptr, letsOf, letU, snd, List.flatMap_cons, List.flatMap_nil, List.cons_append, List.nil_append, List.append_assoc, List.getElem?_cons_zero, List.getElem?_cons_succ] at h2); (try simp only [cm, cond_true, cond_false, pick_or, pick_and, Bool.or_eq_true, Bool.and_eq_true, Bool.or_eq_false_iff, Bool.and_eq_false_iff, Bool.not_eq_true', Bool.not_eq_false', decide_eq_true_eq, decide_eq_false_iff_not, beq_iff_eq, beq_eq_false_iff_ne, bne_iff_ne, bne_eq_false_iff_eq, ge_iff_le, gt_iff_lt, Int.not_lt, Int.not_le] at h2))
    ((try simp only [BT.eval, IT.eval, SV.den, SV.dens, Env.int, Env.bool, Env.val, Env.ptr, letsOf, letU, snd, List.flatMap_cons, List.flatMap_nil, List.cons_append, List.nil_append, List.append_assoc, List.getElem?_cons_zero, List.getElem?_cons_succ]); (try simp only [cm, cond_true, cond_false, pick_or, pick_and, Bool.or_eq_true, Bool.and_eq_true, Bool.or_eq_false_iff, Bool.and_eq_false_iff, Bool.not_eq_true', Bool.not_eq_false', decide_eq_true_eq, decide_eq_false_iff_not, beq_iff_eq, beq_eq_false_iff_ne, bne_iff_ne, bne_eq_false_iff_eq, ge_iff_le, gt_iff_lt, Int.not_lt, Int.not_le])); simp [show ¬ B.w.length ≤ 50 by omega]
  · ((try simp only [BT.eval, IT.eval, SV.den, SV.dens, Env.int, Env.bool, Env.val, Env.ptr, letsOf, letU, snd, List.flatMap_cons, List.flatMap_nil, List.cons_append, List.nil_append, List.append_assoc, List.getElem?_cons_zero, List.getElem?_cons_succ]); (try simp only [cm, cond_true, cond_false, pick_or, pick_and, Bool.or_eq_true, Bool.and_eq_true, Bool.or_eq_false_iff, Bool.and_eq_false_iff, Bool.not_eq_true', Bool.not_eq_false', decide_eq_true_eq, decide_eq_false_iff_not, beq_iff_eq, beq_eq_false_iff_ne, bne_iff_ne, bne_eq_false_iff_eq, ge_iff_le, gt_iff_lt, Int.not_lt, Int.not_le])); simp [show ¬ A.w.length ≤ 50 by omega]
theorem wok_pa : Wok [(2, 5), (5, 2)] := by simp [Wok, Sok]
theorem wok_ba : Wok [(3, 4), (5, 2)] := by simp [Wok, Sok]
theorem wok_a : Wok [(5, 2)] := by simp [Wok, Sok]
theorem wok_p : Wok [(2, 5)] := by simp [Wok, Sok]
theorem wok_pap : Wok [(2, 5), (5, 2), (2, 5)] := by simp [Wok, Sok]
theorem wok_app : Wok [(5, 2), (2, 5), (2, 5)] := by simp [Wok, Sok]
theorem x_dist : distE [2, 3, 4] 3 [(2, 5), (5, 2)] [(3, 4), (5, 2)] = (2, 0) := by decide +kernel
theorem x_align : alignE [2, 3, 4] 3 [(2, 5), (5, 2)] [(5, 2)] = [(0, -1), (1, 0)] := by decide +kernel
theorem x_ways : waysE [2, 3, 4] 3 [(2, 5)] [(5, 2)] = (2, 0) := by decide +kernel
theorem x_score : scoreE [2, 3, 4] 3 [(2, 5)] [(5, 2)] [(0, 0)] = (9, 0) := by decide +kernel
theorem x_long : longE [(2, 5), (5, 2), (2, 5)] [(5, 2), (2, 5), (2, 5)] = (2, 0) := by decide +kernel
theorem x_near : nearE [2, 3, 4] 3 [(2, 5), (5, 2)] [[(3, 4), (5, 2)], [(2, 5), (5, 2)], [(2, 5), (5, 2)]] = (1, 0, 0) := by decide +kernel
theorem x_ratio : ratioE [2, 3, 4] 3 [(2, 5), (5, 2)] [(3, 4), (5, 2)] = ((1, 6), 0) := by decide +kernel
theorem x_check : checkE [2, 3, 4] 3 [[(2, 5), (5, 2)], [(5, 2)]] = 0 := by decide +kernel
set_option maxHeartbeats 2000000 in
theorem c_works17 : RetP Tryd.prog n_law17_works [] TabOk (.bool true) := by
  refine Fn.of S_law17_works mx [] rfl rfl fun c hp => .callV c_p17 (fun _ => trivial) (.callV c_a17 (fun _ => trivial) (.alloc fun b0 => .callV c_b17 (fun _ => trivial) (.callV c_a17 (fun _ => trivial) (.alloc fun b1 => ?_))))
  -- edit.Dist
  refine .env (by (try simp only [letsOf, letU, snd, List.flatMap_cons, List.flatMap_nil, List.cons_append, List.nil_append, List.append_assoc, List.append_nil]); rfl) (.callM c_cost rfl rfl (fun _ => trivial) ?_)
  rintro v mq hfr ⟨t, e, rfl, hm⟩
  refine ⟨[.p (some ⟨t, 0, none⟩), .i 3, .i 3, .i 3], uOk_of rfl, rfl, ?_⟩
  replace hm := (Mem.join_new (hfr t (by rw [hm]; simp)).1).trans hm
  generalize Mem.join _ mq = m at hm ⊢
  have k1 := c_editDist ⟨some ⟨b0, 0, none⟩, 2, [(2, 5), (5, 2)]⟩ ⟨some ⟨b1, 0, none⟩, 2, [(3, 4), (5, 2)]⟩ (some ⟨t, 0, none⟩) 3 [2, 3, 4] 3 wok_pa wok_ba
  simp only [x_dist] at k1
  refine .callV k1 (fun g => ⟨g.cells (j := 0) rfl rfl rfl, g.cells (j := 1) rfl rfl rfl, cells_of_mem g hm, hp.mono g.R⟩) ?_
  clear k1 hm hfr
  -- edit.Align
  refine .env (by (try simp only [letsOf, letU, snd, List.flatMap_cons, List.flatMap_nil, List.cons_append, List.nil_append, List.append_assoc, List.append_nil]); rfl) (.callM c_cost rfl rfl (fun _ => trivial) ?_)
  rintro v mq2 hfr ⟨t, e, rfl, hm⟩
  refine ⟨[.p (some ⟨t, 0, none⟩), .i 3, .i 3, .i 3], uOk_of rfl, rfl, ?_⟩
  replace hm := (Mem.join_new (hfr t (by rw [hm]; simp)).1).trans hm
  generalize Mem.join _ mq2 = m at hm ⊢
  have k1 := c_editAlign ⟨some ⟨b0, 0, none⟩, 2, [(2, 5), (5, 2)]⟩ ⟨some ⟨b0, 2, none⟩, 1, [(5, 2)]⟩ (some ⟨t, 0, none⟩) 3 [2, 3, 4] 3 wok_pa wok_a
  simp only [x_align, x_check] at k1
  refine .callM k1 rfl rfl (fun g => ⟨g.cells (j := 0) rfl rfl rfl, g.cells (j := 0) rfl rfl rfl, cells_of_mem g hm, hp.mono g.R⟩) ?_
  clear k1 hfr
  rintro v mq3 hfr ⟨ql, cl, rfl, hrow⟩
  refine ⟨[.p ql, .i 2, .i cl, .i 0], uOk_of rfl, rfl, ?_⟩
  replace hrow : Row (m.join mq3) 57 2 ql cl 2 (pcells [(0, -1), (1, 0)]) := hrow.keep fun g hg hg' => Mem.join_new (hfr g hg').1
  generalize Mem.join _ mq3 = m at hrow ⊢
  clear hm hfr
  -- edit.Ways
  refine .env (by (try simp only [letsOf, letU, snd, List.flatMap_cons, List.flatMap_nil, List.cons_append, List.nil_append, List.append_assoc, List.append_nil]); rfl) (.callM c_cost rfl rfl (fun _ => trivial) ?_)
  rintro v mq4 hfr ⟨t, e, rfl, hm⟩
  refine ⟨[.p (some ⟨t, 0, none⟩), .i 3, .i 3, .i 3], uOk_of rfl, rfl, ?_⟩
  replace hm := (Mem.join_new (hfr t (by rw [hm]; simp)).1).trans hm
  replace hrow := hrow.keep (m' := Mem.join m mq4) fun g hg hg' => by cases h : m g with | none => exact absurd h hg' | some o => exact Mem.join_at h
  generalize Mem.join _ mq4 = m at hm hrow ⊢
  have k1 := c_editWays ⟨some ⟨b0, 0, none⟩, 2, [(2, 5)]⟩ ⟨some ⟨b0, 2, none⟩, 1, [(5, 2)]⟩ (some ⟨t, 0, none⟩) 3 [2, 3, 4] 3 wok_p wok_a
  simp only [x_ways] at k1
  refine .callV k1 (fun g => ⟨g.cells (j := 0) rfl rfl rfl, g.cells (j := 0) rfl rfl rfl, cells_of_mem g hm, hp.mono g.R⟩) ?_
  clear k1 hfr hm
  -- edit.Score
  refine .env (by (try simp only [letsOf, letU, snd, List.flatMap_cons, List.flatMap_nil, List.cons_append, List.nil_append, List.append_assoc, List.append_nil]); rfl) (.callM c_cost rfl rfl (fun _ => trivial) ?_)
  rintro v mq5 hfr ⟨t, e, rfl, hm⟩
  refine ⟨[.p (some ⟨t, 0, none⟩), .i 3, .i 3, .i 3], uOk_of rfl, rfl, ?_⟩
  replace hm := (Mem.join_new (hfr t (by rw [hm]; simp)).1).trans hm
  replace hrow := hrow.keep (m' := Mem.join m mq5) fun g hg hg' => by cases h : m g with | none => exact absurd h hg' | some o => exact Mem.join_at h
  generalize Mem.join _ mq5 = m at hm hrow ⊢
  refine .alloc fun b2 => ?_
  have k1 := c_editScore ⟨some ⟨b0, 0, none⟩, 2, [(2, 5)]⟩ ⟨some ⟨b0, 2, none⟩, 1, [(5, 2)]⟩ (some ⟨b2, 0, none⟩) 1 [(0, 0)] (some ⟨t, 0, none⟩) 3 [2, 3, 4] 3 wok_p wok_a (by decide)
  simp only [x_score] at k1
  refine .callV k1 (fun g => ⟨g.cells (j := 0) rfl rfl rfl, g.cells (j := 0) rfl rfl rfl, g.cells (j := 2) rfl rfl rfl, cells_of_mem g hm, hp.mono g.R⟩) ?_
  clear k1 hfr hm
  -- edit.Longest
  refine .env (by (try simp only [letsOf, letU, snd, List.flatMap_cons, List.flatMap_nil, List.cons_append, List.nil_append, List.append_assoc, List.append_nil]); rfl) (.callV c_p17 (fun _ => trivial) (.callV c_a17 (fun _ => trivial) (.callV c_p17 (fun _ => trivial) (.alloc fun b3 => .callV c_a17 (fun _ => trivial) (.callV c_p17 (fun _ => trivial) (.callV c_p17 (fun _ => trivial) (.alloc fun b4 => ?_)))))))
  have k1 := c_longest (some ⟨b3, 0, none⟩) (some ⟨b4, 0, none⟩) 3 3 [(2, 5), (5, 2), (2, 5)] [(5, 2), (2, 5), (2, 5)] wok_pap wok_app
  simp only [x_long] at k1
  refine .env (by (try simp only [letsOf, letU, snd, List.flatMap_cons, List.flatMap_nil, List.cons_append, List.nil_append, List.append_assoc, List.append_nil]); rfl) (.callV k1 (fun g => ⟨g.cells (j := 3) rfl rfl rfl, g.cells (j := 4) rfl rfl rfl⟩) ?_)
  clear k1
  -- edit.Near
  refine .alloc fun b5 => .env (by (try simp only [letsOf, letU, snd, List.flatMap_cons, List.flatMap_nil, List.cons_append, List.nil_append, List.append_assoc, List.append_nil]); rfl) (.callM c_cost rfl rfl (fun _ => trivial) ?_)
  rintro v mq6 hfr ⟨t, e, rfl, hm⟩
  refine ⟨[.p (some ⟨t, 0, none⟩), .i 3, .i 3, .i 3], uOk_of rfl, rfl, ?_⟩
  replace hm := (Mem.join_new (hfr t (by rw [hm]; simp)).1).trans hm
  replace hrow := hrow.keep (m' := Mem.join m mq6) fun g hg hg' => by cases h : m g with | none => exact absurd h hg' | some o => exact Mem.join_at h
  generalize Mem.join _ mq6 = m at hm hrow ⊢
  have k1 := c_editNear ⟨some ⟨b0, 0, none⟩, 2, [(2, 5), (5, 2)]⟩ (some ⟨b5, 0, none⟩) 3 [⟨some ⟨b1, 0, none⟩, 2, [(3, 4), (5, 2)]⟩, ⟨some ⟨b0, 0, none⟩, 2, [(2, 5), (5, 2)]⟩, ⟨some ⟨b0, 0, none⟩, 2, [(2, 5), (5, 2)]⟩] (some ⟨t, 0, none⟩) 3 [2, 3, 4] 3 wok_pa (by simp [wok_pa, wok_ba]) (by simp)
  simp only [List.map_cons, List.map_nil, x_near] at k1
  refine .env (by (try simp only [letsOf, letU, snd, List.flatMap_cons, List.flatMap_nil, List.cons_append, List.nil_append, List.append_assoc, List.append_nil]); rfl) (.callV k1 (fun g => ⟨g.cells (j := 0) rfl rfl rfl, ⟨g.cells (j := 5) rfl rfl rfl, ?_⟩, cells_of_mem g hm, hp.mono g.R⟩) ?_)
  · simp only [List.mem_cons, List.not_mem_nil, or_false]
    rintro x (rfl | rfl | rfl)
    · exact g.cells (j := 1) rfl rfl rfl
    · exact g.cells (j := 0) rfl rfl rfl
    · exact g.cells (j := 0) rfl rfl rfl
  clear k1 hfr hm
  -- edit.Ratio
  refine .env (by (try simp only [letsOf, letU, snd, List.flatMap_cons, List.flatMap_nil, List.cons_append, List.nil_append, List.append_assoc, List.append_nil]); rfl) (.callM c_cost rfl rfl (fun _ => trivial) ?_)
  rintro v mq7 hfr ⟨t, e, rfl, hm⟩
  refine ⟨[.p (some ⟨t, 0, none⟩), .i 3, .i 3, .i 3], uOk_of rfl, rfl, ?_⟩
  replace hm := (Mem.join_new (hfr t (by rw [hm]; simp)).1).trans hm
  replace hrow := hrow.keep (m' := Mem.join m mq7) fun g hg hg' => by cases h : m g with | none => exact absurd h hg' | some o => exact Mem.join_at h
  generalize Mem.join _ mq7 = m at hm hrow ⊢
  have k1 := c_editRatio ⟨some ⟨b0, 0, none⟩, 2, [(2, 5), (5, 2)]⟩ ⟨some ⟨b1, 0, none⟩, 2, [(3, 4), (5, 2)]⟩ (some ⟨t, 0, none⟩) 3 [2, 3, 4] 3 wok_pa wok_ba
  simp only [x_ratio] at k1
  refine .env (by (try simp only [letsOf, letU, snd, List.flatMap_cons, List.flatMap_nil, List.cons_append, List.nil_append, List.append_assoc, List.append_nil]); rfl) (.callV k1 (fun g => ⟨g.cells (j := 0) rfl rfl rfl, g.cells (j := 1) rfl rfl rfl, cells_of_mem g hm, hp.mono g.R⟩) ?_)
  clear k1 hfr hm
  refine .alloc fun b6 => .env (by (try simp only [letsOf, letU, snd, List.flatMap_cons, List.flatMap_nil, List.cons_append, List.nil_append, List.append_assoc, List.append_nil]); rfl) (.yes rfl (.alloc fun b7 => ?_))
  have k1 := c_same ql (some ⟨b7, 0, none⟩) cl 2 [(0, -1), (1, 0)] [(0, -1), (1, 0)] (by decide)
  refine .callV k1 (fun g => ⟨hrow.reads g, g.cells (j := 7) rfl rfl rfl⟩) (.ret rfl rfl)
end Go.Proofs.YtedfogpnmpmggaaDoor
