/- FeatsSets: what the law's code answers. -/
import Derived.Test.YtiocflikonfefaaDoorLb
set_option linter.unusedSimpArgs false
set_option linter.unusedVariables false
namespace Go.Sy
open Go
theorem put_valid {s : Snd} (hs : valid s = true) {f : Nat} (hf : f < 24) (v : Int) : valid (putS s f v) = true := by
  have h := (valid_iff s).1 hs
  have hb := putS_bit (Sok.of_valid hs) (f := f) v
  rw [valid_iff]
  refine ⟨fun i hi => ?_, lt_of_bits fun i hi => ?_, lt_of_bits fun i hi => ?_⟩
  · rw [(hb i).1, (hb i).2] at hi
    by_cases e : i = f
    · rw [if_pos e, if_pos e, beq_iff_eq, beq_iff_eq] at hi; omega
    · rw [if_neg e, if_neg e] at hi; exact h.1 i hi
  · rw [(hb i).1, if_neg (by omega), bit_big h.2.1 hi]
  · rw [(hb i).2, if_neg (by omega), bit_big h.2.2 hi]
theorem getV_put {s : Snd} (hs : valid s = true) {f : Nat} (hf : f < 24) {v : Int} (hv : v = 0 ∨ v = 1 ∨ v = -1) (g : Int) : getV (putS s f v) g = if g = f then v else getV s g := by
  have hb := putS_bit (Sok.of_valid hs) (f := f) v g.toNat
  unfold getV
  rw [hb.1, hb.2, hs, put_valid hs hf v]
  by_cases e : g = f
  · subst e
    rw [if_pos ⟨rfl, by omega, by omega⟩, if_pos rfl]
    rcases hv with rfl | rfl | rfl <;> simp
  · rw [if_neg e]
    by_cases h2 : True ∧ 0 ≤ g ∧ g < 24
    · have h3 : g.toNat ≠ f := by omega
      simp only [h3, if_false]
    · rw [if_neg (by simpa using h2), if_neg (by simpa using h2)]
theorem put_back {s : Snd} (hs : valid s = true) {f : Nat} (hf : f < 24) (v : Int) : putS (putS s f v) f (getV s f) = s := by
  have h := Sok.of_valid hs
  have hb := putS_bit h (f := f) v
  have hc := putS_bit (putS_ok h (show f < 32 by omega) v) (f := f) (getV s f)
  have ho := getV_one hs hf
  refine Snd.ext (fun g => ?_) (fun g => ?_)
  · rw [(hc g).1, (hb g).1]
    split
    · rename_i e; rw [e, ho.1]
    · rfl
  · rw [(hc g).2, (hb g).2]
    split
    · rename_i e; rw [e, ho.2]
    · rfl
theorem with_ok {s : Snd} (hs : valid s = true) {f : Nat} (hf : f < 24) {v : Int} (hv : v = 0 ∨ v = 1 ∨ v = -1) : withS s f v = (putS s f v, 0) := by
  unfold withS
  rw [if_neg (by simp [hs]), if_neg (by omega), if_neg (by omega)]; simp
theorem rem24 (n : Nat) (h : n < 256) : ar .rem .i64 (IntKind.i64.wrap (n : Int)) 24 = ((n % 24 : Nat) : Int) := by
  rw [wrap_i64 (by omega) (by omega)]
  exact (show ar .rem .i64 (n : Int) 24 = Int.tmod (n : Int) 24 from rfl).trans ((Int.tmod_eq_emod_of_nonneg (Int.natCast_nonneg n)).trans (by omega))
theorem rem3 (n : Nat) (h : n < 256) : ar .sub .i64 (ar .rem .i64 (IntKind.i64.wrap (n : Int)) 3) 1 = ((n % 3 : Nat) : Int) - 1 := by
  have : ar .rem .i64 (IntKind.i64.wrap (n : Int)) 3 = ((n % 3 : Nat) : Int) := by
    rw [wrap_i64 (by omega) (by omega)]
    exact (show ar .rem .i64 (n : Int) 3 = Int.tmod (n : Int) 3 from rfl).trans ((Int.tmod_eq_emod_of_nonneg (Int.natCast_nonneg n)).trans (by omega))
  rw [this, subI (by omega) (by omega)]
end Go.Sy
namespace Go.Proofs.YtiocflikonfefaaDoor
open Go Go.Sy Go.RowKit
theorem nat_of_wf8 {n : Int} (h : (Lit.int .u8 n).wf = true) : ∃ m : Nat, n = (m : Int) ∧ m < 2 ^ 8 := by
  simp only [Lit.wf, Bool.and_eq_true, decide_eq_true_eq] at h
  have h1' : (0 : Int) ≤ n := h.1
  have h2' : n ≤ 255 := h.2
  exact ⟨n.toNat, by omega, by omega⟩
theorem l_FeatsSets (x : Snd) (n v : Nat) (hx : Sok x) (hn : n < 2 ^ 8) (hv : v < 2 ^ 8) : RetP Tryd.prog n_law01_FeatsSets [snd x, .int .u8 (n : Int), .int .u8 (v : Int)] TabOk (.bool true) := by
  refine Fn.of S_law01_FeatsSets mx [.i x.1, .i x.2, .i n, .i v] rfl rfl fun c hp => .alloc fun _ => ?_
  refine .callV (c_made x.1 x.2 hx.1 hx.2) (fun _ => trivial) ?_
  obtain ⟨vs, os⟩ := madeOk x hx
  generalize madeS x.1 x.2 = s at *
  have ef := rem24 n (by omega)
  have ev := rem3 v (by omega)
  have hf : n % 24 < 24 := Nat.mod_lt _ (by decide)
  have hw : ((v % 3 : Nat) : Int) - 1 = 0 ∨ ((v % 3 : Nat) : Int) - 1 = 1 ∨ ((v % 3 : Nat) : Int) - 1 = -1 := by omega
  generalize n % 24 = f at *
  generalize ((v % 3 : Nat) : Int) - 1 = w at *
  have c1 := c_with s f w os
  rw [with_ok vs hf hw] at c1
  have vt := put_valid vs hf w
  have ot := Sok.of_valid vt
  have hg := getV_put vs hf hw
  have c2 := c_with (putS s f w) f (getV s f) ot
  rw [with_ok vt hf (getV_range s f), put_back vs hf w] at c2
  generalize putS s f w = t at *
  refine .alloc fun _ => .callV c1 (fun _ => trivial) (.alloc fun _ => .no rfl (.callV (c_valid t ot) (fun _ => trivial) (.no (by ((try simp only [BT.eval, IT.eval, SV.den, SV.dens, Env.int, Env.bool, Env.val, Env.ptr, letsOf, letU, snd, List.flatMap_cons, List.flatMap_nil, List.cons_append, List.nil_append, List.append_assoc, List.getElem?_cons_zero, List.getElem?_cons_succ]); (try simp only [cm, cond_true, cond_false, pick_or, pick_and, Bool.or_eq_true, Bool.and_eq_true, Bool.or_eq_false_iff, Bool.and_eq_false_iff, Bool.not_eq_true', Bool.not_eq_false', decide_eq_true_eq, decide_eq_false_iff_not, beq_iff_eq, beq_eq_false_iff_ne, bne_iff_ne, bne_eq_false_iff_eq, ge_iff_le, gt_iff_lt, Int.not_lt, Int.not_le])); simp [vt]) ?_))) (hargs := by rw [← ef, ← ev]; rfl)
  refine .env (by (try simp only [letsOf, letU, snd, List.flatMap_cons, List.flatMap_nil, List.cons_append, List.nil_append, List.append_assoc, List.append_nil]); rfl) (.loop (fun k us _ => ∃ (b : Bool) (g : Int), us = [.b b, .i g] ∧ -1 ≤ g ∧ (k : Int) + g = 25) 26 ⟨false, -1, rfl, by omega, by omega⟩ ?_)
  rintro k _ m _ ⟨b, g, rfl, h0, h1⟩
  have ea : g ≤ 24 → ar .add .i64 g 1 = g + 1 := fun h => addI (by omega) (by omega)
  refine .ite (fun h2 => ?_) (fun h2 => ?_) <;> ((try simp only [BT.eval, IT.eval, SV.den, SV.dens, Env.int, Env.bool, Env.val, Env.ptr, letsOf, letU, snd, List.flatMap_cons, List.flatMap_nil, List.cons_append, List.nil_append, List.append_assoc, List.getElem?_cons_zero, List.getElem?_cons_succ] at h2); (try simp only [cm, cond_true, cond_false, pick_or, pick_and, Bool.or_eq_true, Bool.and_eq_true, Bool.or_eq_false_iff, Bool.and_eq_false_iff, Bool.not_eq_true', Bool.not_eq_false', decide_eq_true_eq, decide_eq_false_iff_not, beq_iff_eq, beq_eq_false_iff_ne, bne_iff_ne, bne_eq_false_iff_eq, ge_iff_le, gt_iff_lt, Int.not_lt, Int.not_le] at h2))
  · refine .callV (c_get s g os) (fun _ => trivial) (.ite (fun h3 => ?_) (fun h3 => ?_)) <;> ((try simp only [BT.eval, IT.eval, SV.den, SV.dens, Env.int, Env.bool, Env.val, Env.ptr, letsOf, letU, snd, List.flatMap_cons, List.flatMap_nil, List.cons_append, List.nil_append, List.append_assoc, List.getElem?_cons_zero, List.getElem?_cons_succ] at h3 ); (try simp only [cm, cond_true, cond_false, pick_or, pick_and, Bool.or_eq_true, Bool.and_eq_true, Bool.or_eq_false_iff, Bool.and_eq_false_iff, Bool.not_eq_true', Bool.not_eq_false', decide_eq_true_eq, decide_eq_false_iff_not, beq_iff_eq, beq_eq_false_iff_ne, bne_iff_ne, bne_eq_false_iff_eq, ge_iff_le, gt_iff_lt, Int.not_lt, Int.not_le] at h3 ))<;> rw [ef] at h3
    · refine .callV (c_get t g ot) (fun _ => trivial) (.no (by ((try simp only [BT.eval, IT.eval, SV.den, SV.dens, Env.int, Env.bool, Env.val, Env.ptr, letsOf, letU, snd, List.flatMap_cons, List.flatMap_nil, List.cons_append, List.nil_append, List.append_assoc, List.getElem?_cons_zero, List.getElem?_cons_succ]); (try simp only [cm, cond_true, cond_false, pick_or, pick_and, Bool.or_eq_true, Bool.and_eq_true, Bool.or_eq_false_iff, Bool.and_eq_false_iff, Bool.not_eq_true', Bool.not_eq_false', decide_eq_true_eq, decide_eq_false_iff_not, beq_iff_eq, beq_eq_false_iff_ne, bne_iff_ne, bne_eq_false_iff_eq, ge_iff_le, gt_iff_lt, Int.not_lt, Int.not_le])); rw [ev, hg, if_pos h3]) (.again rfl ⟨k - 1, by omega, b, g + 1, ?_, by omega, by omega⟩))
      show [U.b b, U.i (ar .add .i64 g 1)] = _
      rw [ea h2]
    · refine .callV (c_get t g ot) (fun _ => trivial) (.no (by ((try simp only [BT.eval, IT.eval, SV.den, SV.dens, Env.int, Env.bool, Env.val, Env.ptr, letsOf, letU, snd, List.flatMap_cons, List.flatMap_nil, List.cons_append, List.nil_append, List.append_assoc, List.getElem?_cons_zero, List.getElem?_cons_succ]); (try simp only [cm, cond_true, cond_false, pick_or, pick_and, Bool.or_eq_true, Bool.and_eq_true, Bool.or_eq_false_iff, Bool.and_eq_false_iff, Bool.not_eq_true', Bool.not_eq_false', decide_eq_true_eq, decide_eq_false_iff_not, beq_iff_eq, beq_eq_false_iff_ne, bne_iff_ne, bne_eq_false_iff_eq, ge_iff_le, gt_iff_lt, Int.not_lt, Int.not_le])); rw [hg, if_neg h3]) (.again rfl ⟨k - 1, by omega, b, g + 1, ?_, by omega, by omega⟩))
      show [U.b b, U.i (ar .add .i64 g 1)] = _
      rw [ea h2]
  · refine .callV (c_get s f os) (fun _ => trivial) (.callV c2 (fun _ => trivial) (.alloc fun _ => .yes (by ((try simp only [BT.eval, IT.eval, SV.den, SV.dens, Env.int, Env.bool, Env.val, Env.ptr, letsOf, letU, snd, List.flatMap_cons, List.flatMap_nil, List.cons_append, List.nil_append, List.append_assoc, List.getElem?_cons_zero, List.getElem?_cons_succ]); (try simp only [cm, cond_true, cond_false, pick_or, pick_and, Bool.or_eq_true, Bool.and_eq_true, Bool.or_eq_false_iff, Bool.and_eq_false_iff, Bool.not_eq_true', Bool.not_eq_false', decide_eq_true_eq, decide_eq_false_iff_not, beq_iff_eq, beq_eq_false_iff_ne, bne_iff_ne, bne_eq_false_iff_eq, ge_iff_le, gt_iff_lt, Int.not_lt, Int.not_le])); simp) (.callV c_works (fun g => hp.mono g.R) (.ret rfl rfl))) (hargs := by rw [← ef]; rfl)) (hargs := by rw [← ef]; rfl)
end Go.Proofs.YtiocflikonfefaaDoor
