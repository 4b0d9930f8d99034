/- edit.Ways. -/
import Derived.Test.YtedfogpnmpmggaaDoorGe
set_option linter.unusedSimpArgs false
set_option linter.unusedVariables false
namespace Go.Sy
open Go Go.RowKit
theorem wrap_u64 {n : Int} (h1 : 0 ≤ n) (h2 : n < 18446744073709551616) : IntKind.u64.wrap n = n := by
  unfold IntKind.wrap
  simp [IntKind.signed, IntKind.bits]
  omega
/-- What is filled in of a table of n + 1 rows of m + 1. -/
def fillF (n m : Nat) (R : Nat → Nat → Int) (i j : Nat) : Nat → Nat → Int := fun i' j' => if (i ≤ i' ∨ (i' + 1 = i ∧ j ≤ j')) ∧ i' ≤ n ∧ j' ≤ m then R i' j' else 0
section
variable {n m : Nat} {R : Nat → Nat → Int}
theorem fillF_start (j : Nat) (hj : m < j) : fillF n m R (n + 1) j = fun _ _ => 0 := by
  funext i' j'
  unfold fillF
  rw [if_neg (by omega)]
theorem fillF_row (i j : Nat) (hj : m < j) : fillF n m R (i + 1) 0 = fillF n m R i j := by
  funext i' j'
  unfold fillF
  by_cases h : (i + 1 ≤ i' ∨ (i' + 1 = i + 1 ∧ 0 ≤ j')) ∧ i' ≤ n ∧ j' ≤ m
  · rw [if_pos h, if_pos (by omega)]
  · rw [if_neg h, if_neg (by omega)]
theorem fillF_next (r s : Nat) (hr : r ≤ n) (hs : s ≤ m) : upd2 (fillF n m R (r + 1) (s + 1)) r s (R r s) = fillF n m R (r + 1) s := by
  funext i' j'
  unfold upd2 fillF
  by_cases h : i' = r ∧ j' = s
  · rw [if_pos h, if_pos (by omega), h.1, h.2]
  · rw [if_neg h]
    by_cases h2 : (r + 1 ≤ i' ∨ (i' + 1 = r + 1 ∧ s + 1 ≤ j')) ∧ i' ≤ n ∧ j' ≤ m
    · rw [if_pos h2, if_pos (by omega)]
    · rw [if_neg h2, if_neg (by omega)]
theorem fillF_here (r s : Nat) : upd2 (fillF n m R (r + 1) (s + 1)) r s 0 = fillF n m R (r + 1) (s + 1) := by
  funext i' j'
  unfold upd2
  by_cases h : i' = r ∧ j' = s
  · rw [if_pos h, h.1, h.2]; unfold fillF; rw [if_neg (by omega)]
  · rw [if_neg h]
theorem fillF_at {i j i' j' : Nat} (h : i ≤ i' ∨ (i' + 1 = i ∧ j ≤ j')) (h1 : i' ≤ n) (h2 : j' ≤ m) : fillF n m R i j i' j' = R i' j' := by unfold fillF; rw [if_pos ⟨h, h1, h2⟩]
end
def TD.W (T : TD) (i j : Nat) : Int := (WA T.d T.gap T.A.w T.B.w i j : Nat)
theorem TD.W_bound (T : TD) (i j : Nat) : 0 ≤ T.W i j ∧ T.W i j ≤ 9223372036854775808 := by
  have := way_le (d := T.d) (g := T.gap) (T.A.w.drop i) (T.B.w.drop j)
  unfold TD.W WA
  omega
theorem foldl_sat_le {l : List Nat} (x : Nat) (hx : x ≤ 2 ^ 63) : l.foldl sat x ≤ 2 ^ 63 := by
  induction l generalizing x with
  | nil => exact hx
  | cons y l ih => exact ih _ (sat_le _ _)
def waysE (ws : List Int) (gap : Int) (a b : List Snd) : Int × Int :=
  if checkE ws gap [a, b] ≠ 0 then (0, checkE ws gap [a, b]) else if way (dC ws gap) gap a b = 2 ^ 63 then (0, 7) else ((way (dC ws gap) gap a b : Nat), 0)
end Go.Sy
namespace Go.Proofs.YtedfogpnmpmggaaDoor
open Go Go.Sy Go.RowKit
theorem big90 : bigCells Tryd.prog 90 none = List.replicate 1089 (.int .u64 0) := by kernel_rfl
theorem gbox_ne {m : Mem} {b tb : Nat} {e e' : TypeId} {v : Value} {hd : List Value} {k : IntKind} {f : Nat → Nat → Int} (h : m b = some (box e v)) (h' : m tb = some (.cells (gcells hd k f).toArray e' (0, 0))) : b ≠ tb := box_ne h h'
set_option maxHeartbeats 1000000 in
theorem c_editWays (A B : WD) (pc : Option Addr) (cc : Nat) (ws : List Int) (gap : Int) (ha : Wok A.w) (hb : Wok B.w) :
    RetP Tryd.prog n_edit_Ways [A.v, B.v, costs pc ws.length cc gap] (fun R => WordAt R A.p A.w ∧ WordAt R B.p B.w ∧ CostsAt R pc ws ∧ TabOk R) (.tuple #[.int .i64 (waysE ws gap A.w B.w).1, .int .i64 (waysE ws gap A.w B.w).2]) := by
  obtain ⟨pa, ca, a⟩ := A
  obtain ⟨pb, cb, b⟩ := B
  simp only [] at ha hb
  refine Fn.of S_edit_Ways mx [.p pa, .i a.length, .i ca, .p pb, .i b.length, .i cb, .p pc, .i ws.length, .i cc, .i gap] rfl rfl fun c hp => .alloc fun b0 => ?_
  obtain ⟨hp1, hp2, hp3, hp4⟩ := hp
  refine .callM (c_newTable ⟨pa, ca, a⟩ ⟨pb, cb, b⟩ pc cc ws gap ha hb) rfl rfl (fun g => ⟨hp1.mono g.R, hp2.mono g.R, hp3.mono g.R, hp4.mono g.R⟩) ?_
  rintro v mq hfr ⟨hv1, hv2⟩
  by_cases he : checkE ws gap [a, b] = 0
  case neg =>
    obtain rfl := hv1 he
    refine ⟨[.p none, .i (checkE ws gap [a, b])], uOk_of rfl, rfl, .yes (by ((try simp only [BT.eval, IT.eval, SV.den, SV.dens, Env.int, Env.bool, Env.val, Env.ptr, letsOf, letU, snd, List.flatMap_cons, List.flatMap_nil, List.cons_append, List.nil_append, List.append_assoc, List.getElem?_cons_zero, List.getElem?_cons_succ]); (try simp only [cm, cond_true, cond_false, pick_or, pick_and, Bool.or_eq_true, Bool.and_eq_true, Bool.or_eq_false_iff, Bool.and_eq_false_iff, Bool.not_eq_true', Bool.not_eq_false', decide_eq_true_eq, decide_eq_false_iff_not, beq_iff_eq, beq_eq_false_iff_ne, bne_iff_ne, bne_eq_false_iff_eq, ge_iff_le, gt_iff_lt, Int.not_lt, Int.not_le])); simp [he]) (.ret rfl ?_)⟩
    unfold waysE
    rw [if_pos he]; rfl
  obtain ⟨tb, hT, rfl, hmq⟩ := hv2 he
  refine ⟨[.p (some ⟨tb, 0, none⟩), .i 0], uOk_of rfl, rfl, .no rfl ?_⟩
  generalize hTe : (⟨tb, ⟨pa, ca, a⟩, ⟨pb, cb, b⟩, pc, cc, ws, gap⟩ : TD) = T at hT hmq
  have hTb : T.tb = tb := by rw [← hTe]
  have hTa : T.A.w = a := by rw [← hTe]
  have hTb' : T.B.w = b := by rw [← hTe]
  have hspec : waysE ws gap a b = if T.W 0 0 = 9223372036854775808 then (0, 7) else (T.W 0 0, 0) := by
    unfold waysE
    rw [if_neg (by simp [he])]
    rw [← hTe]
    show (if way (dC ws gap) gap a b = 2 ^ 63 then ((0 : Int), (7 : Int)) else _) = if ((way (dC ws gap) gap a b : Nat) : Int) = 9223372036854775808 then (0, 7) else (((way (dC ws gap) gap a b : Nat) : Int), 0)
    by_cases h : way (dC ws gap) gap a b = 2 ^ 63
    · rw [if_pos h, if_pos (by omega)]
    · rw [if_neg h, if_neg (by omega)]
  have hown := (hfr tb (by rw [hmq]; simp)).2.2
  have hS : TD.full T (TD.SF T c) := TD.SF_full (by rw [hTb]; exact hown) (by rw [← hTe]; exact hp1) (by rw [← hTe]; exact hp2) (by rw [← hTe]; exact hp3) hp4
  have hla : a.length ≤ 32 := by have := hT.la; rw [hTa] at this; exact this
  have hlb : b.length ≤ 32 := by have := hT.lb; rw [hTb'] at this; exact this
  have hm0 : (Mem.emp.join mq) tb = some (.cells (gcells T.hd .i64 (T.F 0 0)).toArray 79 (0, 0)) := hmq
  generalize Mem.emp.join mq = m0 at hm0 ⊢
  refine .allocb fun tw hw0 _ _ => ?_
  have hne : tb ≠ tw := fun e => by rw [e, hw0] at hm0; cases hm0
  have hm1 : (m0.upd tw (.cells (bigCells Tryd.prog 90 none).toArray 90 (0, 0))) tb = some (.cells (gcells T.hd .i64 (T.F 0 0)).toArray 79 (0, 0)) := by rw [Mem.upd_other _ _ hne]; exact hm0
  have hw1 : (m0.upd tw (.cells (bigCells Tryd.prog 90 none).toArray 90 (0, 0))) tw = some (.cells (gcells [] .u64 (fillF a.length b.length T.W (a.length + 1) (b.length + 1))).toArray 90 (0, 0)) := by
    rw [Mem.upd_same, big90, fillF_start _ (Nat.lt_succ_self _), gcells_zero]; rfl
  generalize m0.upd tw _ = m1 at hm1 hw1 ⊢
  clear hm0 hw0
  refine .chk (by ((try simp only [BT.eval, IT.eval, SV.den, SV.dens, Env.int, Env.bool, Env.val, Env.ptr, letsOf, letU, snd, List.flatMap_cons, List.flatMap_nil, List.cons_append, List.nil_append, List.append_assoc, List.getElem?_cons_zero, List.getElem?_cons_succ]); (try simp only [cm, cond_true, cond_false, pick_or, pick_and, Bool.or_eq_true, Bool.and_eq_true, Bool.or_eq_false_iff, Bool.and_eq_false_iff, Bool.not_eq_true', Bool.not_eq_false', decide_eq_true_eq, decide_eq_false_iff_not, beq_iff_eq, beq_eq_false_iff_ne, bne_iff_ne, bne_eq_false_iff_eq, ge_iff_le, gt_iff_lt, Int.not_lt, Int.not_le])); omega) (.alloc fun b1 => ?_)
  refine .env (by (try simp only [letsOf, letU, snd, List.flatMap_cons, List.flatMap_nil, List.cons_append, List.nil_append, List.append_assoc, List.append_nil]); rfl) (.loop (fun n us m => ∃ (i bi : Nat) (x : Int), us = [.p (some ⟨bi, 0, none⟩), .i x] ∧ i = n ∧ i ≤ a.length + 1 ∧ m tb = some (.cells (gcells T.hd .i64 (T.F 0 0)).toArray 79 (0, 0)) ∧ m tw = some (.cells (gcells [] .u64 (fillF a.length b.length T.W i (b.length + 1))).toArray 90 (0, 0)) ∧ ((bi = b1 ∧ x = (i : Int) - 1) ∨ m bi = some (box 3 (.int .i64 ((i : Int) - 1))))) (a.length + 1)
    ⟨a.length + 1, b1, _, rfl, rfl, Nat.le_refl _, hm1, hw1, .inl ⟨rfl, by simp [IT.eval, Env.int]⟩⟩ ?_)
  clear hm1 hw1
  rintro n _ m _ ⟨i, bi, x, rfl, rfl, hia, hm, hw, hbi⟩
  refine .loadV (.int .i64 ((i : Int) - 1)) bi 3 1 rfl (hbi.imp (fun ⟨e1, e2⟩ => ⟨_, by rw [e1]; rfl, rfl, by rw [← e2]; rfl⟩) id) (.ite (fun h2 => ?_) (fun h2 => ?_)) <;> ((try simp only [BT.eval, IT.eval, SV.den, SV.dens, Env.int, Env.bool, Env.val, Env.ptr, letsOf, letU, snd, List.flatMap_cons, List.flatMap_nil, List.cons_append, List.nil_append, List.append_assoc, List.getElem?_cons_zero, List.getElem?_cons_succ] at h2); (try simp only [cm, cond_true, cond_false, pick_or, pick_and, Bool.or_eq_true, Bool.and_eq_true, Bool.or_eq_false_iff, Bool.and_eq_false_iff, Bool.not_eq_true', Bool.not_eq_false', decide_eq_true_eq, decide_eq_false_iff_not, beq_iff_eq, beq_eq_false_iff_ne, bne_iff_ne, bne_eq_false_iff_eq, ge_iff_le, gt_iff_lt, Int.not_lt, Int.not_le] at h2))
  · obtain ⟨r, rfl⟩ : ∃ r, i = r + 1 := ⟨i - 1, by omega⟩
    rw [show ((r + 1 : Nat) : Int) - 1 = (r : Int) by omega] at *
    refine .chk (by ((try simp only [BT.eval, IT.eval, SV.den, SV.dens, Env.int, Env.bool, Env.val, Env.ptr, letsOf, letU, snd, List.flatMap_cons, List.flatMap_nil, List.cons_append, List.nil_append, List.append_assoc, List.getElem?_cons_zero, List.getElem?_cons_succ]); (try simp only [cm, cond_true, cond_false, pick_or, pick_and, Bool.or_eq_true, Bool.and_eq_true, Bool.or_eq_false_iff, Bool.and_eq_false_iff, Bool.not_eq_true', Bool.not_eq_false', decide_eq_true_eq, decide_eq_false_iff_not, beq_iff_eq, beq_eq_false_iff_ne, bne_iff_ne, bne_eq_false_iff_eq, ge_iff_le, gt_iff_lt, Int.not_lt, Int.not_le])); omega) (.alloc fun b2 => .env (by (try simp only [letsOf, letU, snd, List.flatMap_cons, List.flatMap_nil, List.cons_append, List.nil_append, List.append_assoc, List.append_nil]); rfl) (.loop (fun n us m => ∃ (j bj : Nat) (y : Int), us = [.p (some ⟨bj, 0, none⟩), .i y] ∧ j = n ∧ j ≤ b.length + 1 ∧ m tb = some (.cells (gcells T.hd .i64 (T.F 0 0)).toArray 79 (0, 0)) ∧ m tw = some (.cells (gcells [] .u64 (fillF a.length b.length T.W (r + 1) j)).toArray 90 (0, 0)) ∧ ((bi = b1 ∧ x = (r : Int)) ∨ m bi = some (box 3 (.int .i64 (r : Int)))) ∧ ((bj = b2 ∧ y = (j : Int) - 1) ∨ m bj = some (box 3 (.int .i64 ((j : Int) - 1))))) (b.length + 1)
      ⟨b.length + 1, b2, _, rfl, rfl, Nat.le_refl _, hm, hw, hbi, .inl ⟨rfl, by simp [IT.eval, Env.int]⟩⟩ ?_))
    clear hbi hm hw
    rintro n _ m _ ⟨j, bj, y, rfl, rfl, hjb, hm, hw, hbi, hbj⟩
    refine .loadV (.int .i64 ((j : Int) - 1)) bj 3 2 rfl (hbj.imp (fun ⟨e1, e2⟩ => ⟨_, by rw [e1]; rfl, rfl, by rw [← e2]; rfl⟩) id) (.ite (fun h3 => ?_) (fun h3 => ?_)) <;> ((try simp only [BT.eval, IT.eval, SV.den, SV.dens, Env.int, Env.bool, Env.val, Env.ptr, letsOf, letU, snd, List.flatMap_cons, List.flatMap_nil, List.cons_append, List.nil_append, List.append_assoc, List.getElem?_cons_zero, List.getElem?_cons_succ] at h3); (try simp only [cm, cond_true, cond_false, pick_or, pick_and, Bool.or_eq_true, Bool.and_eq_true, Bool.or_eq_false_iff, Bool.and_eq_false_iff, Bool.not_eq_true', Bool.not_eq_false', decide_eq_true_eq, decide_eq_false_iff_not, beq_iff_eq, beq_eq_false_iff_ne, bne_iff_ne, bne_eq_false_iff_eq, ge_iff_le, gt_iff_lt, Int.not_lt, Int.not_le] at h3))
    · obtain ⟨s, rfl⟩ : ∃ s, j = s + 1 := ⟨j - 1, by omega⟩
      rw [show ((s + 1 : Nat) : Int) - 1 = (s : Int) by omega] at *
      have hr : r ≤ a.length := by omega
      have hs : s ≤ b.length := by omega
      let x0 : Nat := if T.A.w.length ≤ r ∧ T.B.w.length ≤ s then 1 else 0
      let vals : List Nat := (T.cheap r s).map fun z => WA T.d T.gap T.A.w T.B.w z.1 z.2.1
      have hvals : ((vals.foldl sat x0 : Nat) : Int) = T.W r s := by
        unfold TD.W
        rw [WA_steps]; rfl
      have hx0 : x0 ≤ 2 ^ 63 := by
        show (if T.A.w.length ≤ r ∧ T.B.w.length ≤ s then 1 else 0) ≤ _
        split <;> omega
      refine .join (fun us m' => us = [.b (decide (r = a.length ∧ s = b.length))] ∧ m = m') ?_ ?_
      · refine .loadV (.int .i64 (r : Int)) bi 3 1 rfl (hbi.imp (fun ⟨e1, e2⟩ => ⟨_, by rw [e1]; rfl, rfl, by rw [← e2]; rfl⟩) id) (.chk (by ((try simp only [BT.eval, IT.eval, SV.den, SV.dens, Env.int, Env.bool, Env.val, Env.ptr, letsOf, letU, snd, List.flatMap_cons, List.flatMap_nil, List.cons_append, List.nil_append, List.append_assoc, List.getElem?_cons_zero, List.getElem?_cons_succ]); (try simp only [cm, cond_true, cond_false, pick_or, pick_and, Bool.or_eq_true, Bool.and_eq_true, Bool.or_eq_false_iff, Bool.and_eq_false_iff, Bool.not_eq_true', Bool.not_eq_false', decide_eq_true_eq, decide_eq_false_iff_not, beq_iff_eq, beq_eq_false_iff_ne, bne_iff_ne, bne_eq_false_iff_eq, ge_iff_le, gt_iff_lt, Int.not_lt, Int.not_le])); omega) (.ite (fun h4 => .loadV (.int .i64 (s : Int)) bj 3 2 rfl (hbj.imp (fun ⟨e1, e2⟩ => ⟨_, by rw [e1]; rfl, rfl, by rw [← e2]; rfl⟩) id) (.chk (by ((try simp only [BT.eval, IT.eval, SV.den, SV.dens, Env.int, Env.bool, Env.val, Env.ptr, letsOf, letU, snd, List.flatMap_cons, List.flatMap_nil, List.cons_append, List.nil_append, List.append_assoc, List.getElem?_cons_zero, List.getElem?_cons_succ]); (try simp only [cm, cond_true, cond_false, pick_or, pick_and, Bool.or_eq_true, Bool.and_eq_true, Bool.or_eq_false_iff, Bool.and_eq_false_iff, Bool.not_eq_true', Bool.not_eq_false', decide_eq_true_eq, decide_eq_false_iff_not, beq_iff_eq, beq_eq_false_iff_ne, bne_iff_ne, bne_eq_false_iff_eq, ge_iff_le, gt_iff_lt, Int.not_lt, Int.not_le])); omega) (.again rfl ⟨?_, rfl⟩))) (fun h4 => .again rfl ⟨?_, rfl⟩))) <;> ((try simp only [BT.eval, IT.eval, SV.den, SV.dens, Env.int, Env.bool, Env.val, Env.ptr, letsOf, letU, snd, List.flatMap_cons, List.flatMap_nil, List.cons_append, List.nil_append, List.append_assoc, List.getElem?_cons_zero, List.getElem?_cons_succ] at h4); (try simp only [cm, cond_true, cond_false, pick_or, pick_and, Bool.or_eq_true, Bool.and_eq_true, Bool.or_eq_false_iff, Bool.and_eq_false_iff, Bool.not_eq_true', Bool.not_eq_false', decide_eq_true_eq, decide_eq_false_iff_not, beq_iff_eq, beq_eq_false_iff_ne, bne_iff_ne, bne_eq_false_iff_eq, ge_iff_le, gt_iff_lt, Int.not_lt, Int.not_le] at h4))
        · (simp only [letsOf, letU, snd, List.flatMap_cons, List.flatMap_nil, Sh.uss, Sh.us, IT.eval, BT.eval, SV.den, SV.dens, Env.int, Env.bool, Env.val, Env.ptr, atAddr, map_add0, List.append_assoc, List.cons_append, List.nil_append, List.append_nil, List.getElem?_cons_zero, List.getElem?_cons_succ])
          show [U.b ((s : Int) == (b.length : Int))] = _
          have h4' : r = a.length := by omega
          congr 2
          rw [Bool.eq_iff_iff]; simp [h4']; omega
        · (simp only [letsOf, letU, snd, List.flatMap_cons, List.flatMap_nil, Sh.uss, Sh.us, IT.eval, BT.eval, SV.den, SV.dens, Env.int, Env.bool, Env.val, Env.ptr, atAddr, map_add0, List.append_assoc, List.cons_append, List.nil_append, List.append_nil, List.getElem?_cons_zero, List.getElem?_cons_succ])
          have h4' : ¬ r = a.length := by omega
          simp [h4']
      rintro _ m' _ ⟨rfl, rfl⟩
      refine .join (fun us m' => us = [] ∧ m' tb = m tb ∧ m' tw = some (.cells (gcells [] .u64 (upd2 (fillF a.length b.length T.W (r + 1) (s + 1)) r s (x0 : Int))).toArray 90 (0, 0)) ∧ ∀ k, k ≠ tw → m' k = m k) ?_ ?_
      · refine .ite (fun h4 => ?_) (fun h4 => .again rfl ⟨rfl, rfl, ?_, fun k _ => rfl⟩) <;> ((try simp only [BT.eval, IT.eval, SV.den, SV.dens, Env.int, Env.bool, Env.val, Env.ptr, letsOf, letU, snd, List.flatMap_cons, List.flatMap_nil, List.cons_append, List.nil_append, List.append_assoc, List.getElem?_cons_zero, List.getElem?_cons_succ] at h4); (try simp only [cm, cond_true, cond_false, pick_or, pick_and, Bool.or_eq_true, Bool.and_eq_true, Bool.or_eq_false_iff, Bool.and_eq_false_iff, Bool.not_eq_true', Bool.not_eq_false', decide_eq_true_eq, decide_eq_false_iff_not, beq_iff_eq, beq_eq_false_iff_ne, bne_iff_ne, bne_eq_false_iff_eq, ge_iff_le, gt_iff_lt, Int.not_lt, Int.not_le] at h4))
        · obtain ⟨h4, h4'⟩ : r = a.length ∧ s = b.length := h4
          have hx1 : x0 = 1 := if_pos (by rw [hTa, hTb']; omega)
          refine .loadV (.int .i64 (r : Int)) bi 3 1 rfl (hbi.imp (fun ⟨e1, e2⟩ => ⟨_, by rw [e1]; rfl, rfl, by rw [← e2]; rfl⟩) id) (.loadV (.int .i64 (s : Int)) bj 3 2 rfl (hbj.imp (fun ⟨e1, e2⟩ => ⟨_, by rw [e1]; rfl, rfl, by rw [← e2]; rfl⟩) id) ?_)
          refine .storeG tw 90 [] _ r s 1 rfl (by omega) (by omega) rfl hw rfl (.again rfl ⟨rfl, Mem.upd_other _ _ hne, ?_, fun k hk => Mem.upd_other _ _ hk⟩)
          rw [Mem.upd_same, hx1]; rfl
        · have hx1 : x0 = 0 := if_neg (by rw [hTa, hTb']; omega)
          rw [hx1]
          show m tw = some (.cells (gcells [] .u64 (upd2 (fillF a.length b.length T.W (r + 1) (s + 1)) r s 0)).toArray 90 (0, 0))
          rw [fillF_here]; exact hw
      rintro _ m' _ ⟨rfl, hmt, hw', hrest⟩
      replace hm : m' tb = some (.cells (gcells T.hd .i64 (T.F 0 0)).toArray 79 (0, 0)) := hmt.trans hm
      replace hbi : ((bi = b1 ∧ x = (r : Int)) ∨ m' bi = some (box 3 (.int .i64 (r : Int)))) := hbi.imp id fun h => (hrest _ (box_ne h hw)).trans h
      replace hbj : ((bj = b2 ∧ y = (s : Int)) ∨ m' bj = some (box 3 (.int .i64 (s : Int)))) := hbj.imp id fun h => (hrest _ (box_ne h hw)).trans h
      clear hrest hmt hw
      have hw := hw'
      clear hw'
      refine .loadV (.int .i64 (r : Int)) bi 3 1 rfl (hbi.imp (fun ⟨e1, e2⟩ => ⟨_, by rw [e1]; rfl, rfl, by rw [← e2]; rfl⟩) id) (.loadV (.int .i64 (s : Int)) bj 3 2 rfl (hbj.imp (fun ⟨e1, e2⟩ => ⟨_, by rw [e1]; rfl, rfl, by rw [← e2]; rfl⟩) id) ?_)
      refine .env (by (try simp only [letsOf, letU, snd, List.flatMap_cons, List.flatMap_nil, List.cons_append, List.nil_append, List.append_assoc, List.append_nil]); rfl) (.callM (c_cheapest tb r s) rfl rfl (fun _ => trivial) ?_)
      rintro v mq' hfr' ⟨c0, c1, c2, rfl, rfl, h01, h02, h12⟩
      refine ⟨[.v _], ⟨_, rfl, rfl⟩, rfl, ?_⟩
      refine .range n___edit_table__cheapest_1 _ ((T.cheap r s).map stepU) (fun w => (TD.SF T c).le (Mv.of w)) (box3 c0 c1 c2 tb r s) m'
        (fun k us m' => us = [] ∧ m' tb = some (.cells (gcells T.hd .i64 (T.F 0 0)).toArray 79 (0, 0)) ∧ m' tw = some (.cells (gcells [] .u64 (upd2 (fillF a.length b.length T.W (r + 1) (s + 1)) r s (((vals.take k).foldl sat x0 : Nat) : Int))).toArray 90 (0, 0)) ∧ ((bi = b1 ∧ x = (r : Int)) ∨ m' bi = some (box 3 (.int .i64 (r : Int)))) ∧ ((bj = b2 ∧ y = (s : Int)) ∨ m' bj = some (box 3 (.int .i64 (s : Int))))) (fun _ _ _ => False)
        rfl (by kernel_rfl) rfl ?_ ?_ ?_ ?_ ?_ ?_ ?_ (fun _ _ _ _ _ hE => hE.elim)
      · intro k hk
        cases hq : box3 c0 c1 c2 tb r s k with
        | none => rfl
        | some o => exact absurd (hfr' k (by rw [hq]; simp)).1 hk
      · intro ux hx
        obtain ⟨z, _, rfl⟩ := List.mem_map.1 hx; rfl
      · have := it_cheapest T hT r s (by rw [hTa]; exact hr) (by rw [hTb']; exact hs) c0 c1 c2 h01 h02 h12 (TD.SF T c) hS
        rw [hTb] at this
        rw [List.map_map]
        exact this
      · exact ⟨rfl, hm, hw, hbi, hbj⟩
      · rintro k us m2 w ⟨_, hm2, _⟩ hwd
        exact TD.SF_le (by rw [hTb]; exact hm2) hwd
      · rintro k us ux m2 _ hx ⟨rfl, hm2, hw2, hbi2, hbj2⟩
        rw [List.getElem?_map, Option.map_eq_some_iff] at hx
        obtain ⟨z, hz, rfl⟩ := hx
        have hzm : z ∈ T.steps r s := by
          have := List.mem_of_getElem? hz
          rw [T.cheap_eq] at this
          exact (List.mem_filter.1 this).1
        obtain ⟨z1, z2, z3, _, _⟩ := T.steps_le (by rw [hTa]; exact hr) (by rw [hTb']; exact hs) hzm
        rw [hTa] at z1; rw [hTb'] at z2
        have hvk : vals[k]? = some (WA T.d T.gap T.A.w T.B.w z.1 z.2.1) := by
          show ((T.cheap r s).map fun z => WA T.d T.gap T.A.w T.B.w z.1 z.2.1)[k]? = _
          rw [List.getElem?_map, hz]; rfl
        have hvl : k < vals.length := (List.getElem?_eq_some_iff.1 hvk).1
        have hvs : (vals.take (k + 1)).foldl sat x0 = sat ((vals.take k).foldl sat x0) (WA T.d T.gap T.A.w T.B.w z.1 z.2.1) := by
          rw [List.take_succ_eq_append_getElem hvl, List.foldl_append, (List.getElem?_eq_some_iff.1 hvk).2]; rfl
        have hacc := foldl_sat_le (l := vals.take k) x0 hx0
        have hzw := T.W_bound z.1 z.2.1
        have hcell : ∀ {L : List Nat} {ρ : Env} {blks : List Blk}, Good c L m2 → Cells (vw c L ρ blks m2) (some ⟨tw, 0, none⟩) (gcells [] .u64 (upd2 (fillF a.length b.length T.W (r + 1) (s + 1)) r s (((vals.take k).foldl sat x0 : Nat) : Int))) := fun g k x hx => ⟨tw, 0, rfl, by rw [vw_mem g hw2, Nat.zero_add]; simpa using hx⟩
        refine .alloc fun _ => .loadV (.int .i64 (r : Int)) bi 3 1 rfl (hbi2.imp (fun ⟨e1, e2⟩ => ⟨_, by rw [e1]; rfl, rfl, by rw [← e2]; rfl⟩) id) (.loadV (.int .i64 (s : Int)) bj 3 2 rfl (hbj2.imp (fun ⟨e1, e2⟩ => ⟨_, by rw [e1]; rfl, rfl, by rw [← e2]; rfl⟩) id) ?_)
        refine .loadG tw [] _ r s rfl (by omega) (by omega) rfl hcell (.loadV (.int .i64 (r : Int)) bi 3 1 rfl (hbi2.imp (fun ⟨e1, e2⟩ => ⟨_, by rw [e1]; rfl, rfl, by rw [← e2]; rfl⟩) id) (.loadV (.int .i64 (s : Int)) bj 3 2 rfl (hbj2.imp (fun ⟨e1, e2⟩ => ⟨_, by rw [e1]; rfl, rfl, by rw [← e2]; rfl⟩) id) ?_))
        refine .loadG tw [] _ r s rfl (by omega) (by omega) rfl hcell (.loadG tw [] _ z.1 z.2.1 rfl (by omega) (by omega) rfl hcell ?_)
        rw [show upd2 (fillF a.length b.length T.W (r + 1) (s + 1)) r s (((vals.take k).foldl sat x0 : Nat) : Int) r s = (((vals.take k).foldl sat x0 : Nat) : Int) from if_pos ⟨rfl, rfl⟩,
          show upd2 (fillF a.length b.length T.W (r + 1) (s + 1)) r s (((vals.take k).foldl sat x0 : Nat) : Int) z.1 z.2.1 = T.W z.1 z.2.1 from (if_neg (by omega)).trans (fillF_at (by omega) z1 z2)]
        refine .storeG tw 90 [] _ r s (((vals.take (k + 1)).foldl sat x0 : Nat) : Int) rfl (by omega) (by omega) rfl hw2 ?_ (.leave (.inl ⟨rfl, rfl, ?_, ?_, ?_, ?_⟩))
        · rw [hvs]
          generalize (vals.take k).foldl sat x0 = acc at *
          have e1 : ar .sub .u64 9223372036854775808 (acc : Int) = 9223372036854775808 - (acc : Int) := wrap_u64 (by omega) (by omega)
          have e2 : ((WA T.d T.gap T.A.w T.B.w z.1 z.2.1 : Nat) : Int) = T.W z.1 z.2.1 := rfl
          show ar .add .u64 (acc : Int) (if T.W z.1 z.2.1 < ar .sub .u64 9223372036854775808 (acc : Int) then T.W z.1 z.2.1 else ar .sub .u64 9223372036854775808 (acc : Int)) = _
          rw [e1]
          generalize WA T.d T.gap T.A.w T.B.w z.1 z.2.1 = wz at *
          rw [← e2] at hzw ⊢
          have : (if (wz : Int) < 9223372036854775808 - (acc : Int) then (wz : Int) else 9223372036854775808 - (acc : Int)) = ((min wz (2 ^ 63 - acc) : Nat) : Int) := by
            split <;> omega
          rw [this]
          unfold sat
          show IntKind.u64.wrap _ = _
          rw [wrap_u64 (by omega) (by omega)]
          omega
        · rw [Mem.upd_other _ _ hne]; exact hm2
        · rw [Mem.upd_same, upd2_upd2]
        · exact hbi2.imp id fun h => by rw [Mem.upd_other _ _ (box_ne h hw2)]; exact h
        · exact hbj2.imp id fun h => by rw [Mem.upd_other _ _ (box_ne h hw2)]; exact h
      · rintro us m2 _ ⟨rfl, hm2, hw2, hbi2, hbj2⟩
        have hfull : vals.take ((T.cheap r s).map stepU).length = vals := by
          rw [List.take_of_length_le (by simp [vals])]
        rw [hfull, hvals, fillF_next r s hr hs] at hw2
        refine .loadV (.int .i64 (s : Int)) bj 3 2 rfl (hbj2.imp (fun ⟨e1, e2⟩ => ⟨_, by rw [e1]; rfl, rfl, by rw [← e2]; rfl⟩) id) (.alloc fun b3 => .againL rfl fun g => ⟨s, by omega, s, b3, y, ?_, rfl, by omega, ?_, ?_, ?_, ?_⟩)
        · (simp only [letsOf, letU, snd, List.flatMap_cons, List.flatMap_nil, Sh.uss, Sh.us, IT.eval, BT.eval, SV.den, SV.dens, Env.int, Env.bool, Env.val, Env.ptr, atAddr, map_add0, List.append_assoc, List.cons_append, List.nil_append, List.append_nil, List.getElem?_cons_zero, List.getElem?_cons_succ]); rfl
        · rw [blkMem_not fun h => by rw [(g.blk tb (List.drop_subset _ _ h)).1] at hm2; cases hm2]
          exact hm2
        · rw [blkMem_not fun h => by rw [(g.blk tw (List.drop_subset _ _ h)).1] at hw2; cases hw2]
          exact hw2
        · refine hbi2.imp id fun h => ?_
          rw [blkMem_not fun h2 => by rw [(g.blk bi (List.drop_subset _ _ h2)).1] at h; cases h]
          exact h
        · refine .inr ?_
          rw [blkMem_at (j := 0) (b := b3) (List.Nodup.sublist (List.drop_sublist _ _) g.nd) rfl rfl]
          simp only [SV.dens, SV.den, IT.eval, box]
          have : ar .sub .i64 (s : Int) 1 = (s : Int) - 1 := subI (by omega) (by omega)
          simp only [Env.int]
          first | (rw [← this]; rfl) | skip
    · have hj0 : j = 0 := by omega
      subst hj0
      refine .loadV (.int .i64 (r : Int)) bi 3 1 rfl (hbi.imp (fun ⟨e1, e2⟩ => ⟨_, by rw [e1]; rfl, rfl, by rw [← e2]; rfl⟩) id) (.alloc fun b3 => .againL rfl fun g => ⟨r, by omega, r, b3, x, ?_, rfl, by omega, ?_, ?_, ?_⟩)
      · (simp only [letsOf, letU, snd, List.flatMap_cons, List.flatMap_nil, Sh.uss, Sh.us, IT.eval, BT.eval, SV.den, SV.dens, Env.int, Env.bool, Env.val, Env.ptr, atAddr, map_add0, List.append_assoc, List.cons_append, List.nil_append, List.append_nil, List.getElem?_cons_zero, List.getElem?_cons_succ]); rfl
      · rw [blkMem_not fun h => by rw [(g.blk tb (List.drop_subset _ _ h)).1] at hm; cases hm]
        exact hm
      · rw [fillF_row r (b.length + 1) (Nat.lt_succ_self _)] at hw
        rw [blkMem_not fun h => by rw [(g.blk tw (List.drop_subset _ _ h)).1] at hw; cases hw]
        exact hw
      · refine .inr ?_
        rw [blkMem_at (j := 1) (b := b3) (List.Nodup.sublist (List.drop_sublist _ _) g.nd) rfl rfl]
        simp only [SV.dens, SV.den, IT.eval, box]
        have : ar .sub .i64 (r : Int) 1 = (r : Int) - 1 := subI (by omega) (by omega)
        simp only [Env.int]
        first | (rw [← this]; rfl) | skip
  · have hi0 : i = 0 := by omega
    subst hi0
    have hb0 := T.W_bound 0 0
    have hread : (gcells [] .u64 (fillF a.length b.length T.W 0 (b.length + 1)))[0]? = some (.int .u64 (T.W 0 0)) := by
      have := gcells_at [] .u64 (fillF a.length b.length T.W 0 (b.length + 1)) 0 0 (by omega) (by omega)
      rw [fillF_at (.inl (Nat.le_refl _)) (Nat.zero_le _) (Nat.zero_le _)] at this
      exact this
    have hcell : ∀ {L : List Nat} {ρ : Env} {blks : List Blk}, Good c L m → Cells (vw c L ρ blks m) (some ⟨tw, 0, none⟩) (gcells [] .u64 (fillF a.length b.length T.W 0 (b.length + 1))) := fun g k x hx => ⟨tw, 0, rfl, by rw [vw_mem g hw, Nat.zero_add]; simpa using hx⟩
    refine .chk rfl (.chk rfl (.load1 (.int .u64 (T.W 0 0)) (some ⟨tw, 0, none⟩) _ 0 rfl rfl hcell hread (.ite (fun h4 => .ret rfl ?_) (fun h4 => .chk rfl (.chk rfl (.load1 (.int .u64 (T.W 0 0)) (some ⟨tw, 0, none⟩) _ 0 rfl rfl hcell hread (.ret rfl ?_))))))) <;> ((try simp only [BT.eval, IT.eval, SV.den, SV.dens, Env.int, Env.bool, Env.val, Env.ptr, letsOf, letU, snd, List.flatMap_cons, List.flatMap_nil, List.cons_append, List.nil_append, List.append_assoc, List.getElem?_cons_zero, List.getElem?_cons_succ] at h4); (try simp only [cm, cond_true, cond_false, pick_or, pick_and, Bool.or_eq_true, Bool.and_eq_true, Bool.or_eq_false_iff, Bool.and_eq_false_iff, Bool.not_eq_true', Bool.not_eq_false', decide_eq_true_eq, decide_eq_false_iff_not, beq_iff_eq, beq_eq_false_iff_ne, bne_iff_ne, bne_eq_false_iff_eq, ge_iff_le, gt_iff_lt, Int.not_lt, Int.not_le] at h4))
    · rw [hspec, if_pos h4]; rfl
    · rw [hspec, if_neg h4]
      show Value.tuple #[.int .i64 (IntKind.i64.wrap (T.W 0 0)), .int .i64 0] = _
      rw [wrap_i64 (by omega) (by omega)]
end Go.Proofs.YtedfogpnmpmggaaDoor
