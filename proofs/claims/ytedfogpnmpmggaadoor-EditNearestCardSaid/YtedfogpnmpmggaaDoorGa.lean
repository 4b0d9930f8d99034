/- edit.Longest and what it takes from check. -/
import Derived.Test.YtedfogpnmpmggaaDoorFw
set_option linter.unusedSimpArgs false
set_option linter.unusedVariables false
namespace Go.Sy
open Go
def LA (a b : List Snd) (i j : Nat) : Nat := lcs (a.drop i) (b.drop j)
theorem lcs_nilR (a : List Snd) : lcs a [] = 0 := by cases a <;> rfl
theorem LA_out {a b : List Snd} {i j : Nat} (h : a.length ≤ i ∨ b.length ≤ j) : LA a b i j = 0 := by
  unfold LA
  rcases h with h | h
  · rw [List.drop_of_length_le h]; rfl
  · rw [List.drop_of_length_le h]; exact lcs_nilR _
theorem LA_in {a b : List Snd} {i j : Nat} (hi : i < a.length) (hj : j < b.length) : LA a b i j = if a[i] = b[j] then 1 + LA a b (i + 1) (j + 1) else max (LA a b (i + 1) j) (LA a b i (j + 1)) := by
  unfold LA
  rw [List.drop_eq_getElem_cons hi, List.drop_eq_getElem_cons hj, lcs_cc]
theorem LA_le (a b : List Snd) (i j : Nat) : LA a b i j ≤ a.length := by
  have := (lcs_le (a.drop i) (b.drop j)).1
  simp at this
  unfold LA; omega
def longE (a b : List Snd) : Int × Int := if checkL [a, b] ≠ 0 then (0, checkL [a, b]) else ((lcs a b : Int), 0)
theorem checkL_two {a b : List Snd} (h : checkL [a, b] = 0) : checkW a = 0 ∧ checkW b = 0 := by
  unfold checkL at h
  split at h
  · omega
  · unfold checkL at h
    split at h
    · omega
    · omega
theorem snd_eq {s t : Snd} : ((s.1 : Int) = (t.1 : Int) ∧ (s.2 : Int) = (t.2 : Int)) ↔ s = t := by
  constructor
  · rintro ⟨h1, h2⟩; exact Prod.ext (by omega) (by omega)
  · rintro rfl; exact ⟨rfl, rfl⟩
theorem checkE_nil (l : List (List Snd)) : checkE [] 0 l = checkL l := by unfold checkE; rw [if_neg (by decide)]
end Go.Sy
namespace Go.Proofs.YtedfogpnmpmggaaDoor
open Go Go.Sy Go.RowKit
/-- Words laid into a row of the call's own. -/
theorem wordsAt_of {V : Mv} {q : Option Addr} {l : List WD} (h1 : Cells V q (l.map WD.v)) (h2 : ∀ x ∈ l, WordAt V x.p x.w) : WordsAt V q l := ⟨h1, h2⟩
theorem big96 : bigCells Tryd.prog 96 none = List.replicate 1089 (.int .i64 0) := by kernel_rfl
theorem c_longest (p q : Option Addr) (capp capq : Nat) (a b : List Snd) (ha : Wok a) (hb : Wok b) : RetP Tryd.prog n_edit_Longest [slv p a.length capp, slv q b.length capq] (fun R => WordAt R p a ∧ WordAt R q b) (.tuple #[.int .i64 (longE a b).1, .int .i64 (longE a b).2]) := by
  refine Fn.of S_edit_Longest mx [.p p, .i a.length, .i capp, .p q, .i b.length, .i capq] rfl rfl fun c hp => .alloc fun b0 => ?_
  refine .callV (c_editCheck none 0 [] 0 (some ⟨b0, 0, none⟩) 2 [⟨p, capp, a⟩, ⟨q, capq, b⟩] (by simp [ha, hb]) (by simp)) (fun g => ⟨fun i x hx => by simp at hx, fun i x hx => ⟨b0, 0, rfl, ?_⟩, ?_⟩) (.ite (fun h1 => .ret rfl ?_) (fun h1 => ?_))
  · rw [g.at (j := 0) rfl rfl, Nat.zero_add]; exact hx
  · simp only [List.mem_cons, List.not_mem_nil, or_false]
    rintro x (rfl | rfl)
    · exact hp.1.mono g.R
    · exact hp.2.mono g.R
  · ((try simp only [BT.eval, IT.eval, SV.den, SV.dens, Env.int, Env.bool, Env.val, Env.ptr, letsOf, letU, snd, List.flatMap_cons, List.flatMap_nil, List.cons_append, List.nil_append, List.append_assoc, List.getElem?_cons_zero, List.getElem?_cons_succ] at h1); (try simp only [cm, cond_true, cond_false, pick_or, pick_and, Bool.or_eq_true, Bool.and_eq_true, Bool.or_eq_false_iff, Bool.and_eq_false_iff, Bool.not_eq_true', Bool.not_eq_false', decide_eq_true_eq, decide_eq_false_iff_not, beq_iff_eq, beq_eq_false_iff_ne, bne_iff_ne, bne_eq_false_iff_eq, ge_iff_le, gt_iff_lt, Int.not_lt, Int.not_le] at h1)); rw [checkE_nil] at h1
    replace h1 : checkL [a, b] ≠ 0 := h1
    ((try simp only [BT.eval, IT.eval, SV.den, SV.dens, Env.int, Env.bool, Env.val, Env.ptr, letsOf, letU, snd, List.flatMap_cons, List.flatMap_nil, List.cons_append, List.nil_append, List.append_assoc, List.getElem?_cons_zero, List.getElem?_cons_succ]); (try simp only [cm, cond_true, cond_false, pick_or, pick_and, Bool.or_eq_true, Bool.and_eq_true, Bool.or_eq_false_iff, Bool.and_eq_false_iff, Bool.not_eq_true', Bool.not_eq_false', decide_eq_true_eq, decide_eq_false_iff_not, beq_iff_eq, beq_eq_false_iff_ne, bne_iff_ne, bne_eq_false_iff_eq, ge_iff_le, gt_iff_lt, Int.not_lt, Int.not_le])); simp only [longE]; rw [if_pos h1, checkE_nil]; rfl
  ((try simp only [BT.eval, IT.eval, SV.den, SV.dens, Env.int, Env.bool, Env.val, Env.ptr, letsOf, letU, snd, List.flatMap_cons, List.flatMap_nil, List.cons_append, List.nil_append, List.append_assoc, List.getElem?_cons_zero, List.getElem?_cons_succ] at h1); (try simp only [cm, cond_true, cond_false, pick_or, pick_and, Bool.or_eq_true, Bool.and_eq_true, Bool.or_eq_false_iff, Bool.and_eq_false_iff, Bool.not_eq_true', Bool.not_eq_false', decide_eq_true_eq, decide_eq_false_iff_not, beq_iff_eq, beq_eq_false_iff_ne, bne_iff_ne, bne_eq_false_iff_eq, ge_iff_le, gt_iff_lt, Int.not_lt, Int.not_le] at h1))
  rw [checkE_nil] at h1 ⊢
  replace h1 : checkL [a, b] = 0 := h1
  have hl : longE a b = ((lcs a b : Int), 0) := by unfold longE; rw [if_neg (by simpa using h1)]
  obtain ⟨la, va⟩ := checkW_zero (checkL_two h1).1
  obtain ⟨lb, vb⟩ := checkW_zero (checkL_two h1).2
  rw [show checkL (List.map (fun x : WD => x.w) [⟨p, capp, a⟩, ⟨q, capq, b⟩]) = 0 from h1]
  refine .env (by (try simp only [letsOf, letU, snd, List.flatMap_cons, List.flatMap_nil, List.cons_append, List.nil_append, List.append_assoc, List.append_nil]); rfl) (.allocb fun t _ _ _ => ?_)
  rw [big96, ← List.nil_append (List.replicate 1089 (Value.int .i64 0)), ← gcells_zero]
  refine .chk (by ((try simp only [BT.eval, IT.eval, SV.den, SV.dens, Env.int, Env.bool, Env.val, Env.ptr, letsOf, letU, snd, List.flatMap_cons, List.flatMap_nil, List.cons_append, List.nil_append, List.append_assoc, List.getElem?_cons_zero, List.getElem?_cons_succ]); (try simp only [cm, cond_true, cond_false, pick_or, pick_and, Bool.or_eq_true, Bool.and_eq_true, Bool.or_eq_false_iff, Bool.and_eq_false_iff, Bool.not_eq_true', Bool.not_eq_false', decide_eq_true_eq, decide_eq_false_iff_not, beq_iff_eq, beq_eq_false_iff_ne, bne_iff_ne, bne_eq_false_iff_eq, ge_iff_le, gt_iff_lt, Int.not_lt, Int.not_le])); omega) ?_
  refine .loop (fun n us m => ∃ (i : Nat) (f : Nat → Nat → Int), us = [.i ((i : Int) - 1)] ∧ i = n ∧ i ≤ a.length ∧ m t = some (.cells (gcells [] .i64 f).toArray 96 (0, 0)) ∧ ∀ i' j', i' < 33 → j' < 33 → (i ≤ i' ∨ b.length ≤ j') → f i' j' = LA a b i' j') a.length
    ⟨a.length, fun _ _ => 0, ?_, rfl, Nat.le_refl _, Mem.upd_same .., fun i' j' _ _ h => by rw [LA_out h]; rfl⟩ ?_
  · show [U.i (ar .sub .i64 (a.length : Int) 1)] = _
    rw [subI (by omega) (by omega)]
  rintro n _ m _ ⟨i, f, rfl, rfl, hia, hm, hf⟩
  refine .ite (fun h2 => ?_) (fun h2 => ?_) <;> ((try simp only [BT.eval, IT.eval, SV.den, SV.dens, Env.int, Env.bool, Env.val, Env.ptr, letsOf, letU, snd, List.flatMap_cons, List.flatMap_nil, List.cons_append, List.nil_append, List.append_assoc, List.getElem?_cons_zero, List.getElem?_cons_succ] at h2); (try simp only [cm, cond_true, cond_false, pick_or, pick_and, Bool.or_eq_true, Bool.and_eq_true, Bool.or_eq_false_iff, Bool.and_eq_false_iff, Bool.not_eq_true', Bool.not_eq_false', decide_eq_true_eq, decide_eq_false_iff_not, beq_iff_eq, beq_eq_false_iff_ne, bne_iff_ne, bne_eq_false_iff_eq, ge_iff_le, gt_iff_lt, Int.not_lt, Int.not_le] at h2))
  · obtain ⟨r, rfl⟩ : ∃ r, i = r + 1 := ⟨i - 1, by omega⟩
    rw [show ((r + 1 : Nat) : Int) - 1 = (r : Int) by omega]
    refine .chk (by ((try simp only [BT.eval, IT.eval, SV.den, SV.dens, Env.int, Env.bool, Env.val, Env.ptr, letsOf, letU, snd, List.flatMap_cons, List.flatMap_nil, List.cons_append, List.nil_append, List.append_assoc, List.getElem?_cons_zero, List.getElem?_cons_succ]); (try simp only [cm, cond_true, cond_false, pick_or, pick_and, Bool.or_eq_true, Bool.and_eq_true, Bool.or_eq_false_iff, Bool.and_eq_false_iff, Bool.not_eq_true', Bool.not_eq_false', decide_eq_true_eq, decide_eq_false_iff_not, beq_iff_eq, beq_eq_false_iff_ne, bne_iff_ne, bne_eq_false_iff_eq, ge_iff_le, gt_iff_lt, Int.not_lt, Int.not_le])); omega) (.loop (fun n us m => ∃ (j : Nat) (f : Nat → Nat → Int), us = [.i ((j : Int) - 1)] ∧ j = n ∧ j ≤ b.length ∧ m t = some (.cells (gcells [] .i64 f).toArray 96 (0, 0)) ∧ ∀ i' j', i' < 33 → j' < 33 → (r + 1 ≤ i' ∨ (i' = r ∧ j ≤ j') ∨ b.length ≤ j') → f i' j' = LA a b i' j') b.length
      ⟨b.length, f, ?_, rfl, Nat.le_refl _, hm, fun i' j' q1 q2 h => hf i' j' q1 q2 (by omega)⟩ ?_)
    · show [U.i (ar .sub .i64 (b.length : Int) 1)] = _
      rw [subI (by omega) (by omega)]
    clear hf hm f
    rintro n _ m _ ⟨j, f, rfl, rfl, hjb, hm, hf⟩
    refine .ite (fun h3 => ?_) (fun h3 => ?_) <;> ((try simp only [BT.eval, IT.eval, SV.den, SV.dens, Env.int, Env.bool, Env.val, Env.ptr, letsOf, letU, snd, List.flatMap_cons, List.flatMap_nil, List.cons_append, List.nil_append, List.append_assoc, List.getElem?_cons_zero, List.getElem?_cons_succ] at h3); (try simp only [cm, cond_true, cond_false, pick_or, pick_and, Bool.or_eq_true, Bool.and_eq_true, Bool.or_eq_false_iff, Bool.and_eq_false_iff, Bool.not_eq_true', Bool.not_eq_false', decide_eq_true_eq, decide_eq_false_iff_not, beq_iff_eq, beq_eq_false_iff_ne, bne_iff_ne, bne_eq_false_iff_eq, ge_iff_le, gt_iff_lt, Int.not_lt, Int.not_le] at h3))
    · obtain ⟨s, rfl⟩ : ∃ s, j = s + 1 := ⟨j - 1, by omega⟩
      rw [show ((s + 1 : Nat) : Int) - 1 = (s : Int) by omega]
      have er := add_i64 r (by omega)
      have es := add_i64 s (by omega)
      have cells : ∀ {L : List Nat} {ρ : Env} {blks : List Blk} {m : Mem} {f : Nat → Nat → Int}, m t = some (.cells (gcells [] .i64 f).toArray 96 (0, 0)) → Good c L m → Cells (vw c L ρ blks m) (some ⟨t, 0, none⟩) (gcells [] .i64 f) := fun hm g k x hx => ⟨t, 0, rfl, by rw [vw_mem g hm, Nat.zero_add]; simpa using hx⟩
      have e1 := hf (r + 1) s (by omega) (by omega) (by omega)
      have e2 := hf r (s + 1) (by omega) (by omega) (by omega)
      have e3 := hf (r + 1) (s + 1) (by omega) (by omega) (by omega)
      have b1 := LA_le a b (r + 1) s
      have b2 := LA_le a b r (s + 1)
      have b3 := LA_le a b (r + 1) (s + 1)
      have hin := LA_in (a := a) (b := b) (i := r) (j := s) (by omega) (by omega)
      refine .loadG t [] f (r + 1) s rfl (by omega) (by omega) rfl (fun g => cells hm g) (hI := er) (.loadG t [] f r (s + 1) rfl (by omega) (by omega) rfl (fun g => cells hm g) (hJ := es) ?_)
      refine .storeG t 96 [] f r s (max (LA a b (r + 1) s) (LA a b r (s + 1)) : Nat) rfl (by omega) (by omega) rfl hm ?_ ?_
      · show (if f r (s + 1) > f (r + 1) s then f r (s + 1) else f (r + 1) s) = _
        rw [e1, e2]; split <;> omega
      refine .loadW a r (by omega) (fun g => hp.1.mono g.R) (.loadW b s (by omega) (fun g => hp.2.mono g.R) (.ite (fun h4 => ?_) (fun h4 => ?_)))
      · ((try simp only [BT.eval, IT.eval, SV.den, SV.dens, Env.int, Env.bool, Env.val, Env.ptr, letsOf, letU, snd, List.flatMap_cons, List.flatMap_nil, List.cons_append, List.nil_append, List.append_assoc, List.getElem?_cons_zero, List.getElem?_cons_succ] at h4); (try simp only [cm, cond_true, cond_false, pick_or, pick_and, Bool.or_eq_true, Bool.and_eq_true, Bool.or_eq_false_iff, Bool.and_eq_false_iff, Bool.not_eq_true', Bool.not_eq_false', decide_eq_true_eq, decide_eq_false_iff_not, beq_iff_eq, beq_eq_false_iff_ne, bne_iff_ne, bne_eq_false_iff_eq, ge_iff_le, gt_iff_lt, Int.not_lt, Int.not_le] at h4))
        have heq := snd_eq.1 h4
        rw [if_pos heq] at hin
        refine .loadG t [] _ (r + 1) (s + 1) rfl (by omega) (by omega) rfl (fun g => cells (Mem.upd_same ..) g) (hI := er) (hJ := es) ?_
        refine .storeG t 96 [] _ r s (LA a b r s) rfl (by omega) (by omega) rfl (Mem.upd_same ..) ?_ (.again rfl ⟨s, by omega, s, _, ?_, rfl, by omega, Mem.upd_same .., fun i' j' q1 q2 h => ?_⟩)
        · show ar .add .i64 1 (upd2 f r s _ (r + 1) (s + 1)) = _
          rw [show ∀ v, upd2 f r s v (r + 1) (s + 1) = f (r + 1) (s + 1) from fun v => if_neg (by omega), e3, addI (by omega) (by omega), hin]; omega
        · (simp only [letsOf, letU, snd, List.flatMap_cons, List.flatMap_nil, Sh.uss, Sh.us, IT.eval, BT.eval, SV.den, SV.dens, Env.int, Env.bool, Env.val, Env.ptr, atAddr, map_add0, List.append_assoc, List.cons_append, List.nil_append, List.append_nil, List.getElem?_cons_zero, List.getElem?_cons_succ]); rw [subI (by omega) (by omega)]
        · by_cases hc : i' = r ∧ j' = s
          · rw [upd2, if_pos hc, hc.1, hc.2]
          · rw [upd2, if_neg hc, upd2, if_neg hc]; exact hf i' j' q1 q2 (by omega)
      · ((try simp only [BT.eval, IT.eval, SV.den, SV.dens, Env.int, Env.bool, Env.val, Env.ptr, letsOf, letU, snd, List.flatMap_cons, List.flatMap_nil, List.cons_append, List.nil_append, List.append_assoc, List.getElem?_cons_zero, List.getElem?_cons_succ] at h4); (try simp only [cm, cond_true, cond_false, pick_or, pick_and, Bool.or_eq_true, Bool.and_eq_true, Bool.or_eq_false_iff, Bool.and_eq_false_iff, Bool.not_eq_true', Bool.not_eq_false', decide_eq_true_eq, decide_eq_false_iff_not, beq_iff_eq, beq_eq_false_iff_ne, bne_iff_ne, bne_eq_false_iff_eq, ge_iff_le, gt_iff_lt, Int.not_lt, Int.not_le] at h4))
        rw [if_neg (fun e => by have := snd_eq.2 e; simp [this.1, this.2] at h4)] at hin
        refine .again rfl ⟨s, by omega, s, _, ?_, rfl, by omega, Mem.upd_same .., fun i' j' q1 q2 h => ?_⟩
        · (simp only [letsOf, letU, snd, List.flatMap_cons, List.flatMap_nil, Sh.uss, Sh.us, IT.eval, BT.eval, SV.den, SV.dens, Env.int, Env.bool, Env.val, Env.ptr, atAddr, map_add0, List.append_assoc, List.cons_append, List.nil_append, List.append_nil, List.getElem?_cons_zero, List.getElem?_cons_succ]); rw [subI (by omega) (by omega)]
        · by_cases hc : i' = r ∧ j' = s
          · rw [upd2, if_pos hc, hc.1, hc.2, hin]
          · rw [upd2, if_neg hc]; exact hf i' j' q1 q2 (by omega)
    · refine .again rfl ⟨r, by omega, r, f, ?_, rfl, by omega, hm, fun i' j' q1 q2 h => hf i' j' q1 q2 (by omega)⟩
      (simp only [letsOf, letU, snd, List.flatMap_cons, List.flatMap_nil, Sh.uss, Sh.us, IT.eval, BT.eval, SV.den, SV.dens, Env.int, Env.bool, Env.val, Env.ptr, atAddr, map_add0, List.append_assoc, List.cons_append, List.nil_append, List.append_nil, List.getElem?_cons_zero, List.getElem?_cons_succ]); rw [subI (by omega) (by omega)]
  · have h0 : i = 0 := by omega
    subst h0
    have e0 := hf 0 0 (by omega) (by omega) (by omega)
    refine .chk rfl (.chk rfl (.load1 (.int .i64 (f 0 0)) (some ⟨t, 0, none⟩) (gcells [] .i64 f) 0 rfl rfl (fun g k x hx => ⟨t, 0, rfl, by rw [vw_mem g hm, Nat.zero_add]; simpa using hx⟩) (gcells_at [] .i64 f 0 0 (by omega) (by omega)) (.ret rfl ?_)))
    rw [hl, e0]; rfl
end Go.Proofs.YtedfogpnmpmggaaDoor
