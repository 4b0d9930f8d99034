/- FeatsMetric: what the law's code answers. -/
import Derived.Test.YtiocflikonfefaaDoorLd
set_option linter.unusedSimpArgs false
set_option linter.unusedVariables false
namespace Go.Sy
open Go
theorem sumW_zero (ws : List Int) : sumW 0 ws = 0 := by
  induction ws with
  | nil => rfl
  | cons w ws ih => simp [sumW, ih]
theorem sumW_tri (a b c : Nat) (ws : List Int) (hw : ∀ w ∈ ws, 0 ≤ w) (h : ∀ i, a.testBit i = true → b.testBit i = true ∨ c.testBit i = true) : sumW a ws ≤ sumW b ws + sumW c ws := by
  induction ws generalizing a b c with
  | nil => simp [sumW]
  | cons w ws ih =>
    have h0 := hw w (by simp)
    have := ih (a / 2) (b / 2) (c / 2) (fun x hx => hw x (by simp [hx])) fun i hi => by
      rw [← Nat.testBit_succ] at hi ⊢
      rw [← Nat.testBit_succ]
      exact h (i + 1) hi
    have h1 := h 0
    simp only [sumW]
    cases ha : a.testBit 0 <;> cases hb : b.testBit 0 <;> cases hc : c.testBit 0 <;> simp [ha, hb, hc] at h1 ⊢ <;> omega
theorem diff_comm {r s : Snd} : diffS r s = diffS s r := by
  unfold diffS
  rw [Bool.and_comm, Nat.xor_comm, Nat.xor_comm r.2]
theorem diff_tri {r s t : Snd} (hr : valid r = true) (hs : valid s = true) (ht : valid t = true) (i : Nat) (h : (diffS r s).testBit i = true) : (diffS r t).testBit i = true ∨ (diffS t s).testBit i = true := by
  rw [diff_bit hr hs] at h
  rw [diff_bit hr ht, diff_bit ht hs]
  revert h
  cases r.1.testBit i <;> cases s.1.testBit i <;> cases t.1.testBit i <;> cases r.2.testBit i <;> cases s.2.testBit i <;> cases t.2.testBit i <;> simp
theorem bitsL_pos {n : Nat} {f : Nat} (hf : f ∈ bitsL n) : f < 32 ∧ n.testBit f = true := by
  simpa [bitsL] using hf
theorem addW_ones (ws : List Int) (l : List Nat) (h : ∀ f ∈ l, (ws[f]?).getD 0 = 1) : addW ws 0 l = l.length := by
  induction l with
  | nil => rfl
  | cons f l ih =>
    simp only [addW]
    rw [addW_add, ih fun g hg => h g (by simp [hg]), h f (by simp)]
    simp; omega
theorem sumW_ones {n : Nat} (h : n < 2 ^ 24) : sumW n (List.replicate 24 1) = (bitsL n).length := by
  rw [← addW_bitsL n _ (by simp), addW_ones]
  intro f hf
  obtain ⟨_, h2⟩ := bitsL_pos hf
  rcases Nat.lt_or_ge f 24 with h' | h'
  · rw [List.getElem?_replicate, if_pos h']; rfl
  · rw [bit_big h h'] at h2; cases h2
end Go.Sy
namespace Go.Proofs.YtiocflikonfefaaDoor
open Go Go.Sy Go.RowKit
theorem badW_small {ws : List Int} (hw : ∀ z ∈ ws, 0 ≤ z ∧ z ≤ 65535) (hl : ws.length ≤ 24) : checkC ws 0 = 0 := by
  unfold checkC
  rw [if_neg]
  simp only [not_or, List.any_eq_true, not_exists, not_and]
  refine ⟨by omega, by omega, by omega, fun w hm => ?_⟩
  have := hw w hm
  simp [badW]; omega
theorem dist_ok {r s : Snd} (hr : valid r = true) (hs : valid s = true) {ws : List Int} (hc : checkC ws 0 = 0) : distC r s ws 0 = (sumW (diffS r s) ws, 0) := by
  unfold distC
  rw [if_neg (by simp [hr, hs]), if_neg (by simp [hc])]
theorem u16_range {z : Int} (h : (Lit.int .u16 z).wf = true) : 0 ≤ z ∧ z ≤ 65535 := by
  simp only [Lit.wf, Bool.and_eq_true, decide_eq_true_eq] at h
  exact h
theorem nodiff {r : Snd} (hr : valid r = true) : diffS r r = 0 := (diff_zero hr hr).2 ⟨rfl, rfl⟩
theorem l_FeatsMetric (x y z : Snd) (p : Option Addr) (cap : Nat) (ws : List Int) (hx : Sok x) (hy : Sok y) (hz : Sok z) (hn : p = none → cap = 0) (hw : ∀ z ∈ ws, (Lit.int .u16 z).wf = true) :
    RetP Tryd.prog n_law01_FeatsMetric [snd x, snd y, snd z, slv p ws.length cap] (fun R => TabOk R ∧ Cells R p (ws.map (.int .u16))) (.bool true) := by
  have hw' : ∀ z ∈ ws, 0 ≤ z ∧ z ≤ 65535 := fun z hz => u16_range (hw z hz)
  refine Fn.of S_law01_FeatsMetric mx [.i x.1, .i x.2, .i y.1, .i y.2, .i z.1, .i z.2, .p p, .i ws.length, .i cap] rfl rfl fun c hp => .alloc fun _ => .alloc fun _ => .alloc fun _ => .chk (by ((try simp only [BT.eval, IT.eval, SV.den, SV.dens, Env.int, Env.bool, Env.val, Env.ptr, letsOf, letU, snd, List.flatMap_cons, List.flatMap_nil, List.cons_append, List.nil_append, List.append_assoc, List.getElem?_cons_zero, List.getElem?_cons_succ]); (try simp only [cm, cond_true, cond_false, pick_or, pick_and, Bool.or_eq_true, Bool.and_eq_true, Bool.or_eq_false_iff, Bool.and_eq_false_iff, Bool.not_eq_true', Bool.not_eq_false', decide_eq_true_eq, decide_eq_false_iff_not, beq_iff_eq, beq_eq_false_iff_ne, bne_iff_ne, bne_eq_false_iff_eq, ge_iff_le, gt_iff_lt, Int.not_lt, Int.not_le])); omega) (.ite (fun h1 => .callV c_works (fun g => hp.1.mono g.R) (.ret rfl rfl)) (fun h1 => ?_))
  ((try simp only [BT.eval, IT.eval, SV.den, SV.dens, Env.int, Env.bool, Env.val, Env.ptr, letsOf, letU, snd, List.flatMap_cons, List.flatMap_nil, List.cons_append, List.nil_append, List.append_assoc, List.getElem?_cons_zero, List.getElem?_cons_succ] at h1); (try simp only [cm, cond_true, cond_false, pick_or, pick_and, Bool.or_eq_true, Bool.and_eq_true, Bool.or_eq_false_iff, Bool.and_eq_false_iff, Bool.not_eq_true', Bool.not_eq_false', decide_eq_true_eq, decide_eq_false_iff_not, beq_iff_eq, beq_eq_false_iff_ne, bne_iff_ne, bne_eq_false_iff_eq, ge_iff_le, gt_iff_lt, Int.not_lt, Int.not_le] at h1))
  refine .callV (c_made x.1 x.2 hx.1 hx.2) (fun _ => trivial) (.callV (c_made y.1 y.2 hy.1 hy.2) (fun _ => trivial) (.callV (c_made z.1 z.2 hz.1 hz.2) (fun _ => trivial) ?_))
  obtain ⟨vr, or⟩ := madeOk x hx
  obtain ⟨vs, os⟩ := madeOk y hy
  obtain ⟨vt, ot⟩ := madeOk z hz
  generalize madeS x.1 x.2 = r at *
  generalize madeS y.1 y.2 = s at *
  generalize madeS z.1 z.2 = t at *
  refine .env (by (try simp only [letsOf, letU, snd, List.flatMap_cons, List.flatMap_nil, List.cons_append, List.nil_append, List.append_assoc, List.append_nil]); rfl) (.alloc fun _ => .alloc fun _ => .alloc fun _ => .alloc fun _ => .alloc fun _ => ?_)
  refine .loop (fun n us m => ∃ (f : Nat) (q q1 : Option Addr) (cq cq1 : Nat), us = [.i f, .p q, .i (min f ws.length : Nat), .i cq, .i 0, .p q1, .i f, .i cq1, .i 0] ∧ n + f = 24 ∧ Row m 2 1 q cq (min f ws.length) ((ws.take f).map (.int .i64)) ∧ Row m 2 1 q1 cq1 f (List.replicate f (.int .i64 1)) ∧ ∀ b, q = some ⟨b, 0, none⟩ → q1 ≠ some ⟨b, 0, none⟩) 24
    ⟨0, none, none, 0, 0, by simp; rfl, rfl, by simpa using Row.nil _ _ _, by simpa using Row.nil _ _ _, fun _ h => by cases h⟩ ?_
  rintro n _ m _ ⟨f, q, q1, cq, cq1, rfl, hf, hr, hr1, hd⟩
  refine .ite (fun h2 => ?_) (fun h2 => ?_) <;> ((try simp only [BT.eval, IT.eval, SV.den, SV.dens, Env.int, Env.bool, Env.val, Env.ptr, letsOf, letU, snd, List.flatMap_cons, List.flatMap_nil, List.cons_append, List.nil_append, List.append_assoc, List.getElem?_cons_zero, List.getElem?_cons_succ] at h2); (try simp only [cm, cond_true, cond_false, pick_or, pick_and, Bool.or_eq_true, Bool.and_eq_true, Bool.or_eq_false_iff, Bool.and_eq_false_iff, Bool.not_eq_true', Bool.not_eq_false', decide_eq_true_eq, decide_eq_false_iff_not, beq_iff_eq, beq_eq_false_iff_ne, bne_iff_ne, bne_eq_false_iff_eq, ge_iff_le, gt_iff_lt, Int.not_lt, Int.not_le] at h2))
  · have hf24 : f < 24 := by omega
    refine .alloc fun b8 => .append (q := q1) (cap := cq1) (n := f) (qx := some ⟨b8, 0, none⟩) (kx := 1) (capx := 1) (news := [.int .i64 1]) el38 hr1 (fun g i u hu => ⟨b8, 0, rfl, ?_⟩) (by simp) (by simp [Value.oneCell']) (fun h => by cases h) (by simp [maxLen]; omega) (by omega) (fun q1' cq1' m1 hr1' hk1 hq1' => ?_)
    · rw [g.at (j := 8) rfl rfl, Nat.zero_add]; exact hu
    have hrq : Row m1 2 1 q cq (min f ws.length) ((ws.take f).map (.int .i64)) := hr.keep fun g hg hm => hk1 g (fun ⟨o, ho⟩ => absurd ho fun ho => by
      have h3 := hr1.2
      rcases h3 with ⟨h4, _⟩ | ⟨g2, _, h4, _⟩
      · rw [h4] at ho; cases ho
      · rw [h4] at ho; cases ho; exact hd g hg h4) hm
    have hd1 : ∀ b, q = some ⟨b, 0, none⟩ → q1' ≠ some ⟨b, 0, none⟩ := fun b hb => by
      rcases hq1' with h | ⟨g, h, hg⟩
      · rw [h]; exact hd b hb
      · rw [h]; intro e; cases e
        rcases hr.2 with ⟨h4, _⟩ | ⟨g2, _, h4, h5, _⟩
        · rw [h4] at hb; cases hb
        · rw [h4] at hb; cases hb; rw [h5] at hg; cases hg
    have hones : Row m1 2 1 q1' cq1' (f + 1) (List.replicate (f + 1) (.int .i64 1)) := by rw [List.replicate_succ']; exact hr1'
    refine .chk (by ((try simp only [BT.eval, IT.eval, SV.den, SV.dens, Env.int, Env.bool, Env.val, Env.ptr, letsOf, letU, snd, List.flatMap_cons, List.flatMap_nil, List.cons_append, List.nil_append, List.append_assoc, List.getElem?_cons_zero, List.getElem?_cons_succ]); (try simp only [cm, cond_true, cond_false, pick_or, pick_and, Bool.or_eq_true, Bool.and_eq_true, Bool.or_eq_false_iff, Bool.and_eq_false_iff, Bool.not_eq_true', Bool.not_eq_false', decide_eq_true_eq, decide_eq_false_iff_not, beq_iff_eq, beq_eq_false_iff_ne, bne_iff_ne, bne_eq_false_iff_eq, ge_iff_le, gt_iff_lt, Int.not_lt, Int.not_le])); omega) (.ite (fun h3 => ?_) (fun h3 => .again rfl ⟨n - 1, by omega, f + 1, q, q1', cq, cq1', ?_, by omega, ?_, hones, hd1⟩)) <;> ((try simp only [BT.eval, IT.eval, SV.den, SV.dens, Env.int, Env.bool, Env.val, Env.ptr, letsOf, letU, snd, List.flatMap_cons, List.flatMap_nil, List.cons_append, List.nil_append, List.append_assoc, List.getElem?_cons_zero, List.getElem?_cons_succ] at h3); (try simp only [cm, cond_true, cond_false, pick_or, pick_and, Bool.or_eq_true, Bool.and_eq_true, Bool.or_eq_false_iff, Bool.and_eq_false_iff, Bool.not_eq_true', Bool.not_eq_false', decide_eq_true_eq, decide_eq_false_iff_not, beq_iff_eq, beq_eq_false_iff_ne, bne_iff_ne, bne_eq_false_iff_eq, ge_iff_le, gt_iff_lt, Int.not_lt, Int.not_le] at h3))
    · have hlt : f < ws.length := by omega
      obtain ⟨pb, po, hpe⟩ := hp.2.some (i := f) (by simpa using hlt)
      have hwf := hw' ws[f] (List.getElem_mem hlt)
      refine .chk (by ((try simp only [BT.eval, IT.eval, SV.den, SV.dens, Env.int, Env.bool, Env.val, Env.ptr, letsOf, letU, snd, List.flatMap_cons, List.flatMap_nil, List.cons_append, List.nil_append, List.append_assoc, List.getElem?_cons_zero, List.getElem?_cons_succ]); (try simp only [cm, cond_true, cond_false, pick_or, pick_and, Bool.or_eq_true, Bool.and_eq_true, Bool.or_eq_false_iff, Bool.and_eq_false_iff, Bool.not_eq_true', Bool.not_eq_false', decide_eq_true_eq, decide_eq_false_iff_not, beq_iff_eq, beq_eq_false_iff_ne, bne_iff_ne, bne_eq_false_iff_eq, ge_iff_le, gt_iff_lt, Int.not_lt, Int.not_le])); simp [hpe]; omega) (.load1 (.int .u16 ws[f]) p (ws.map (.int .u16)) f rfl (by simp [IT.eval, Env.int]) (fun g => hp.2.mono g.R) (by simp [hlt]) ?_)
      refine .env (by (try simp only [letsOf, letU, snd, List.flatMap_cons, List.flatMap_nil, List.cons_append, List.nil_append, List.append_assoc, List.append_nil]); rfl) (.alloc fun b9 => .append (q := q) (cap := cq) (n := min f ws.length) (qx := some ⟨b9, 0, none⟩) (kx := 1) (capx := 1) (news := [.int .i64 (IntKind.i64.wrap ws[f])]) el38 hrq (fun g i u hu => ⟨b9, 0, rfl, ?_⟩) (by simp) (by simp [Value.oneCell']) (fun h => by cases h) (by simp [maxLen]; omega) (by omega) (fun q' cq' m2 hr' hk2 hq' => ?_))
      · rw [g.at (j := 9) rfl rfl, Nat.zero_add]; exact hu
      refine .again rfl ⟨n - 1, by omega, f + 1, q', q1', cq', cq1', ?_, by omega, ?_, hones.keep fun g hg hm => hk2 g (fun ⟨o, ho⟩ => absurd ho fun ho => ?_) hm, ?_⟩
      · (simp only [Sh.uss, Sh.us, IT.eval, BT.eval, SV.den, SV.dens, Env.int, Env.bool, Env.val, Env.ptr, atAddr, map_add0, List.append_assoc, List.cons_append, List.nil_append, List.append_nil, List.getElem?_cons_zero, List.getElem?_cons_succ])
        rw [add_i64 f (by omega), show min f ws.length + 1 = min (f + 1) ws.length by omega]
      · rw [wrap_i64 (by omega) (by omega), show min f ws.length + 1 = min (f + 1) ws.length by omega] at hr'
        rw [List.take_succ_eq_append_getElem hlt, List.map_append]
        exact hr'
      · rcases hrq.2 with ⟨h4, _⟩ | ⟨g2, _, h4, _⟩
        · rw [h4] at ho; cases ho
        · rw [h4] at ho; cases ho; exact hd1 g h4 hg
      · intro b hb
        rcases hq' with h | ⟨g, h, hg⟩
        · rw [h] at hb; exact hd1 b hb
        · rw [h] at hb; cases hb
          intro e
          rcases hones.2 with ⟨h4, _⟩ | ⟨g2, _, h4, h5, _⟩
          · rw [h4] at e; cases e
          · rw [h4] at e; cases e; rw [h5] at hg; cases hg
    · (simp only [Sh.uss, Sh.us, IT.eval, BT.eval, SV.den, SV.dens, Env.int, Env.bool, Env.val, Env.ptr, atAddr, map_add0, List.append_assoc, List.cons_append, List.nil_append, List.append_nil, List.getElem?_cons_zero, List.getElem?_cons_succ])
      rw [add_i64 f (by omega), show min f ws.length = min (f + 1) ws.length by omega]
    · rw [show min (f + 1) ws.length = min f ws.length by omega, show ws.take (f + 1) = ws.take f by rw [List.take_of_length_le (by omega), List.take_of_length_le (by omega)]]
      exact hrq
  · have hf24 : f = 24 := by omega
    subst hf24
    rw [show min 24 ws.length = ws.length by omega, List.take_of_length_le (by omega)] at hr
    rw [show ((min 24 ws.length : Nat) : Int) = (ws.length : Int) by omega]
    have hc := badW_small hw' (by omega : ws.length ≤ 24)
    have hc1 : checkC (List.replicate 24 1) 0 = 0 := by decide
    have d1 := dist_ok vr vs hc
    have d2 := dist_ok vs vr hc
    have d3 := dist_ok vr vt hc
    have d4 := dist_ok vt vs hc
    have d5 := dist_ok vr vr hc
    have d6 := dist_ok vr vs hc1
    have hb : ∀ w ∈ ws, 0 ≤ w ∧ w ≤ 1073741824 := fun w hm => by have := hw' w hm; omega
    have b1 := sumW_bound (diffS r s) ws hb
    have b2 := sumW_bound (diffS r t) ws hb
    have b3 := sumW_bound (diffS t s) ws hb
    have tr := sumW_tri _ _ _ ws (fun w hm => (hb w hm).1) (diff_tri vr vs vt)
    have d6' := sumW_ones (diffS_lt r s)
    have rr := nodiff vr
    have hcell : ∀ {L : List Nat} {ρ : Env} {blks : List Blk}, Good c L m → CostsAt (vw c L ρ blks m) q ws ∧ TabOk (vw c L ρ blks m) := fun g => ⟨hr.reads g, hp.1.mono g.R⟩
    have hcell1 : ∀ {L : List Nat} {ρ : Env} {blks : List Blk}, Good c L m → CostsAt (vw c L ρ blks m) q1 (List.replicate 24 1) ∧ TabOk (vw c L ρ blks m) := fun {L ρ blks} g => ⟨by
      have h : Cells (vw c L ρ blks m) q1 (List.replicate 24 (.int .i64 1)) := hr1.reads g
      unfold CostsAt
      rw [List.map_replicate]; exact h, hp.1.mono g.R⟩
    refine .callV (c_dist r s q cq ws 0 or os) hcell (.callV (c_dist s r q cq ws 0 os or) hcell (.callV (c_dist r t q cq ws 0 or ot) hcell (.callV (c_dist t s q cq ws 0 ot os) hcell (.callV (c_dist r r q cq ws 0 or or) hcell (.callV (c_dist r s q1 cq1 (List.replicate 24 1) 0 or os) hcell1 ?_)))))
    rw [d1, d2, d3, d4, d5, d6, rr, sumW_zero, d6', diff_comm (r := s)]
    have e1 : ar .add .i64 (sumW (diffS r t) ws) (sumW (diffS t s) ws) = sumW (diffS r t) ws + sumW (diffS t s) ws := addI (by omega) (by omega)
    refine .env (by (try simp only [letsOf, letU, snd, List.flatMap_cons, List.flatMap_nil, List.cons_append, List.nil_append, List.append_assoc, List.append_nil]); rfl) (.no (by ((try simp only [BT.eval, IT.eval, SV.den, SV.dens, Env.int, Env.bool, Env.val, Env.ptr, letsOf, letU, snd, List.flatMap_cons, List.flatMap_nil, List.cons_append, List.nil_append, List.append_assoc, List.getElem?_cons_zero, List.getElem?_cons_succ]); (try simp only [cm, cond_true, cond_false, pick_or, pick_and, Bool.or_eq_true, Bool.and_eq_true, Bool.or_eq_false_iff, Bool.and_eq_false_iff, Bool.not_eq_true', Bool.not_eq_false', decide_eq_true_eq, decide_eq_false_iff_not, beq_iff_eq, beq_eq_false_iff_ne, bne_iff_ne, bne_eq_false_iff_eq, ge_iff_le, gt_iff_lt, Int.not_lt, Int.not_le])); rw [e1]; simp; omega) (.callV (c_diff r s or os) (fun _ => trivial) ?_))
    have hD := diffS_lt r s
    generalize diffS r s = d at *
    refine .env (by (try simp only [letsOf, letU, snd, List.flatMap_cons, List.flatMap_nil, List.cons_append, List.nil_append, List.append_assoc, List.append_nil]); rfl) (.loop (fun n us m' => ∃ (k e : Nat), us = [.i k, .i e] ∧ e = n ∧ e < 2 ^ 32 ∧ (bitsL e).length + k = (bitsL d).length) d ⟨0, d, rfl, rfl, by omega, by omega⟩ ?_)
    rintro n _ m' _ ⟨k, e, rfl, rfl, he, hk⟩
    refine .ite (fun h3 => ?_) (fun h3 => ?_) <;> ((try simp only [BT.eval, IT.eval, SV.den, SV.dens, Env.int, Env.bool, Env.val, Env.ptr, letsOf, letU, snd, List.flatMap_cons, List.flatMap_nil, List.cons_append, List.nil_append, List.append_assoc, List.getElem?_cons_zero, List.getElem?_cons_succ] at h3); (try simp only [cm, cond_true, cond_false, pick_or, pick_and, Bool.or_eq_true, Bool.and_eq_true, Bool.or_eq_false_iff, Bool.and_eq_false_iff, Bool.not_eq_true', Bool.not_eq_false', decide_eq_true_eq, decide_eq_false_iff_not, beq_iff_eq, beq_eq_false_iff_ne, bne_iff_ne, bne_eq_false_iff_eq, ge_iff_le, gt_iff_lt, Int.not_lt, Int.not_le] at h3))
    · have he0 : 0 < e := by omega
      obtain ⟨i, u, rfl⟩ := low_ex e he0
      have hi : i < 32 := by
        rcases Nat.lt_or_ge i 32 with h' | h'
        · exact h'
        · have := Nat.pow_le_pow_right (n := 2) (by omega) h'
          have h3 : 2 ^ i ≤ 2 ^ i * (2 * u + 1) := Nat.le_mul_of_pos_right _ (by omega)
          omega
      have hlt : 2 ^ i * (2 * u) < 2 ^ i * (2 * u + 1) := Nat.mul_lt_mul_of_pos_left (by omega) (Nat.two_pow_pos i)
      have h32 := bitsL_len d
      rw [bitsL_low hi, List.length_cons] at hk
      refine .again rfl ⟨2 ^ i * (2 * u), hlt, k + 1, 2 ^ i * (2 * u), ?_, rfl, by omega, by omega⟩
      show [U.i (ar .add .i64 (k : Int) 1), .i (ar .and .u32 ((2 ^ i * (2 * u + 1) : Nat) : Int) (ar .sub .u32 ((2 ^ i * (2 * u + 1) : Nat) : Int) 1))] = _
      rw [add_i64 k (by omega), ar_dec _ he0 he, ar_and _ _ he (by omega), clear_low i u]
    · have he0 : e = 0 := by omega
      subst he0
      rw [bitsL_zero] at hk
      refine .yes (by ((try simp only [BT.eval, IT.eval, SV.den, SV.dens, Env.int, Env.bool, Env.val, Env.ptr, letsOf, letU, snd, List.flatMap_cons, List.flatMap_nil, List.cons_append, List.nil_append, List.append_assoc, List.getElem?_cons_zero, List.getElem?_cons_succ]); (try simp only [cm, cond_true, cond_false, pick_or, pick_and, Bool.or_eq_true, Bool.and_eq_true, Bool.or_eq_false_iff, Bool.and_eq_false_iff, Bool.not_eq_true', Bool.not_eq_false', decide_eq_true_eq, decide_eq_false_iff_not, beq_iff_eq, beq_eq_false_iff_ne, bne_iff_ne, bne_eq_false_iff_eq, ge_iff_le, gt_iff_lt, Int.not_lt, Int.not_le])); simp at hk ⊢; omega) (.callV c_works (fun g => hp.1.mono g.R) (.ret rfl rfl))
end Go.Proofs.YtiocflikonfefaaDoor
