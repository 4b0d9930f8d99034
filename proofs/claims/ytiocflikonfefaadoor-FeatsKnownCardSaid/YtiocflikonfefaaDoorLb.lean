/- Laws of chapter 01 on valid sounds: what the law's code answers. -/
import Derived.Test.YtiocflikonfefaaDoorFg
import Derived.Test.YtiocflikonfefaaDoorPd
set_option linter.unusedSimpArgs false
set_option linter.unusedVariables false
namespace Go.Proofs.YtiocflikonfefaaDoor
open Go Go.Sy Go.RowKit
theorem cmpN_range (a b : Nat) : (cmpN a b = -1 ∧ a < b) ∨ (cmpN a b = 0 ∧ a = b) ∨ (cmpN a b = 1 ∧ b < a) := by
  unfold cmpN
  split
  · exact .inl ⟨rfl, ‹_›⟩
  · split
    · exact .inr (.inr ⟨rfl, by omega⟩)
    · exact .inr (.inl ⟨rfl, by omega⟩)
theorem order_range (a b : Snd) : (orderS a b = -1 ∧ (a.1 < b.1 ∨ a.1 = b.1 ∧ a.2 < b.2)) ∨ (orderS a b = 0 ∧ a.1 = b.1 ∧ a.2 = b.2) ∨ (orderS a b = 1 ∧ (b.1 < a.1 ∨ a.1 = b.1 ∧ b.2 < a.2)) := by
  unfold orderS
  rcases cmpN_range a.1 b.1 with ⟨h, h'⟩ | ⟨h, h'⟩ | ⟨h, h'⟩ <;> rw [h]
  · exact .inl ⟨rfl, .inl h'⟩
  · rw [if_neg (by decide)]
    rcases cmpN_range a.2 b.2 with ⟨k, k'⟩ | ⟨k, k'⟩ | ⟨k, k'⟩ <;> rw [k]
    · exact .inl ⟨rfl, .inr ⟨h', k'⟩⟩
    · exact .inr (.inl ⟨rfl, h', k'⟩)
    · exact .inr (.inr ⟨rfl, .inr ⟨h', k'⟩⟩)
  · exact .inr (.inr ⟨rfl, .inl h'⟩)
theorem l_FeatsOrders (x y z : Snd) (hx : Sok x) (hy : Sok y) (hz : Sok z) : RetP Tryd.prog n_law01_FeatsOrders [snd x, snd y, snd z] TabOk (.bool true) := by
  refine Fn.of S_law01_FeatsOrders mx [.i x.1, .i x.2, .i y.1, .i y.2, .i z.1, .i z.2] rfl rfl fun c hp => .alloc fun _ => .alloc fun _ => .alloc fun _ => ?_
  refine .callV (c_order x y hx hy) (fun _ => trivial) (.callV (c_order y z hy hz) (fun _ => trivial) (.callV (c_order x z hx hz) (fun _ => trivial) (.callV (c_order y x hy hx) (fun _ => trivial) ?_)))
  have r1 := order_range x y; have r2 := order_range y z; have r3 := order_range x z; have r4 := order_range y x
  have e0 : ∀ n : Int, n = -1 ∨ n = 0 ∨ n = 1 → ar .sub .i64 0 n = -n := fun n hn => by rw [subI (by omega) (by omega)]; omega
  have e4 := e0 (orderS y x) (by omega)
  refine .no (by ((try simp only [BT.eval, IT.eval, SV.den, SV.dens, Env.int, Env.bool, Env.val, Env.ptr, letsOf, letU, snd, List.flatMap_cons, List.flatMap_nil, List.cons_append, List.nil_append, List.append_assoc, List.getElem?_cons_zero, List.getElem?_cons_succ]); (try simp only [cm, cond_true, cond_false, pick_or, pick_and, Bool.or_eq_true, Bool.and_eq_true, Bool.or_eq_false_iff, Bool.and_eq_false_iff, Bool.not_eq_true', Bool.not_eq_false', decide_eq_true_eq, decide_eq_false_iff_not, beq_iff_eq, beq_eq_false_iff_ne, bne_iff_ne, bne_eq_false_iff_eq, ge_iff_le, gt_iff_lt, Int.not_lt, Int.not_le])); rw [e4]; refine ⟨⟨⟨by omega, ?_⟩, by omega⟩, by omega⟩; rw [Bool.eq_iff_iff]; simp; omega) (.ite (fun h1 => .yes (by ((try simp only [BT.eval, IT.eval, SV.den, SV.dens, Env.int, Env.bool, Env.val, Env.ptr, letsOf, letU, snd, List.flatMap_cons, List.flatMap_nil, List.cons_append, List.nil_append, List.append_assoc, List.getElem?_cons_zero, List.getElem?_cons_succ]); (try simp only [cm, cond_true, cond_false, pick_or, pick_and, Bool.or_eq_true, Bool.and_eq_true, Bool.or_eq_false_iff, Bool.and_eq_false_iff, Bool.not_eq_true', Bool.not_eq_false', decide_eq_true_eq, decide_eq_false_iff_not, beq_iff_eq, beq_eq_false_iff_ne, bne_iff_ne, bne_eq_false_iff_eq, ge_iff_le, gt_iff_lt, Int.not_lt, Int.not_le])); ((try simp only [BT.eval, IT.eval, SV.den, SV.dens, Env.int, Env.bool, Env.val, Env.ptr, letsOf, letU, snd, List.flatMap_cons, List.flatMap_nil, List.cons_append, List.nil_append, List.append_assoc, List.getElem?_cons_zero, List.getElem?_cons_succ] at h1); (try simp only [cm, cond_true, cond_false, pick_or, pick_and, Bool.or_eq_true, Bool.and_eq_true, Bool.or_eq_false_iff, Bool.and_eq_false_iff, Bool.not_eq_true', Bool.not_eq_false', decide_eq_true_eq, decide_eq_false_iff_not, beq_iff_eq, beq_eq_false_iff_ne, bne_iff_ne, bne_eq_false_iff_eq, ge_iff_le, gt_iff_lt, Int.not_lt, Int.not_le] at h1)); simp; omega) (.callV c_works (fun g => hp.mono g.R) (.ret rfl rfl))) (fun h1 => .yes (by ((try simp only [BT.eval, IT.eval, SV.den, SV.dens, Env.int, Env.bool, Env.val, Env.ptr, letsOf, letU, snd, List.flatMap_cons, List.flatMap_nil, List.cons_append, List.nil_append, List.append_assoc, List.getElem?_cons_zero, List.getElem?_cons_succ]); (try simp only [cm, cond_true, cond_false, pick_or, pick_and, Bool.or_eq_true, Bool.and_eq_true, Bool.or_eq_false_iff, Bool.and_eq_false_iff, Bool.not_eq_true', Bool.not_eq_false', decide_eq_true_eq, decide_eq_false_iff_not, beq_iff_eq, beq_eq_false_iff_ne, bne_iff_ne, bne_eq_false_iff_eq, ge_iff_le, gt_iff_lt, Int.not_lt, Int.not_le])); ((try simp only [BT.eval, IT.eval, SV.den, SV.dens, Env.int, Env.bool, Env.val, Env.ptr, letsOf, letU, snd, List.flatMap_cons, List.flatMap_nil, List.cons_append, List.nil_append, List.append_assoc, List.getElem?_cons_zero, List.getElem?_cons_succ] at h1); (try simp only [cm, cond_true, cond_false, pick_or, pick_and, Bool.or_eq_true, Bool.and_eq_true, Bool.or_eq_false_iff, Bool.and_eq_false_iff, Bool.not_eq_true', Bool.not_eq_false', decide_eq_true_eq, decide_eq_false_iff_not, beq_iff_eq, beq_eq_false_iff_ne, bne_iff_ne, bne_eq_false_iff_eq, ge_iff_le, gt_iff_lt, Int.not_lt, Int.not_le] at h1)); omega) (.yes (by ((try simp only [BT.eval, IT.eval, SV.den, SV.dens, Env.int, Env.bool, Env.val, Env.ptr, letsOf, letU, snd, List.flatMap_cons, List.flatMap_nil, List.cons_append, List.nil_append, List.append_assoc, List.getElem?_cons_zero, List.getElem?_cons_succ]); (try simp only [cm, cond_true, cond_false, pick_or, pick_and, Bool.or_eq_true, Bool.and_eq_true, Bool.or_eq_false_iff, Bool.and_eq_false_iff, Bool.not_eq_true', Bool.not_eq_false', decide_eq_true_eq, decide_eq_false_iff_not, beq_iff_eq, beq_eq_false_iff_ne, bne_iff_ne, bne_eq_false_iff_eq, ge_iff_le, gt_iff_lt, Int.not_lt, Int.not_le])); ((try simp only [BT.eval, IT.eval, SV.den, SV.dens, Env.int, Env.bool, Env.val, Env.ptr, letsOf, letU, snd, List.flatMap_cons, List.flatMap_nil, List.cons_append, List.nil_append, List.append_assoc, List.getElem?_cons_zero, List.getElem?_cons_succ] at h1); (try simp only [cm, cond_true, cond_false, pick_or, pick_and, Bool.or_eq_true, Bool.and_eq_true, Bool.or_eq_false_iff, Bool.and_eq_false_iff, Bool.not_eq_true', Bool.not_eq_false', decide_eq_true_eq, decide_eq_false_iff_not, beq_iff_eq, beq_eq_false_iff_ne, bne_iff_ne, bne_eq_false_iff_eq, ge_iff_le, gt_iff_lt, Int.not_lt, Int.not_le] at h1)); omega) (.callV c_works (fun g => hp.mono g.R) (.ret rfl rfl)))))
theorem madeOk (x : Snd) (h : Sok x) : valid (madeS x.1 x.2) = true ∧ Sok (madeS x.1 x.2) := ⟨madeS_valid _ _ h.1, .of_valid (madeS_valid _ _ h.1)⟩
theorem l_FeatsMeets (x y z : Snd) (hx : Sok x) (hy : Sok y) (hz : Sok z) : RetP Tryd.prog n_law01_FeatsMeets [snd x, snd y, snd z] TabOk (.bool true) := by
  refine Fn.of S_law01_FeatsMeets mx [.i x.1, .i x.2, .i y.1, .i y.2, .i z.1, .i z.2] rfl rfl fun c hp => .alloc fun _ => .alloc fun _ => .alloc fun _ => ?_
  refine .callV (c_made x.1 x.2 hx.1 hx.2) (fun _ => trivial) (.callV (c_made y.1 y.2 hy.1 hy.2) (fun _ => trivial) (.callV (c_made z.1 z.2 hz.1 hz.2) (fun _ => trivial) ?_))
  obtain ⟨vr, or⟩ := madeOk x hx
  obtain ⟨vs, os⟩ := madeOk y hy
  obtain ⟨vt, ot⟩ := madeOk z hz
  generalize madeS x.1 x.2 = r at *
  generalize madeS y.1 y.2 = s at *
  generalize madeS z.1 z.2 = t at *
  have vm := meet_valid vr vs
  have om := Sok.of_valid vm
  have vst := meet_valid vs vt
  refine .alloc fun _ => .alloc fun _ => .alloc fun _ => .callV (c_meet r s or os) (fun _ => trivial) (.callV (c_meet s r os or) (fun _ => trivial) (.no (by ((try simp only [BT.eval, IT.eval, SV.den, SV.dens, Env.int, Env.bool, Env.val, Env.ptr, letsOf, letU, snd, List.flatMap_cons, List.flatMap_nil, List.cons_append, List.nil_append, List.append_assoc, List.getElem?_cons_zero, List.getElem?_cons_succ]); (try simp only [cm, cond_true, cond_false, pick_or, pick_and, Bool.or_eq_true, Bool.and_eq_true, Bool.or_eq_false_iff, Bool.and_eq_false_iff, Bool.not_eq_true', Bool.not_eq_false', decide_eq_true_eq, decide_eq_false_iff_not, beq_iff_eq, beq_eq_false_iff_ne, bne_iff_ne, bne_eq_false_iff_eq, ge_iff_le, gt_iff_lt, Int.not_lt, Int.not_le])); simp [meet_comm vr vs]) ?_))
  refine .callV (c_meet r r or or) (fun _ => trivial) (.no (by ((try simp only [BT.eval, IT.eval, SV.den, SV.dens, Env.int, Env.bool, Env.val, Env.ptr, letsOf, letU, snd, List.flatMap_cons, List.flatMap_nil, List.cons_append, List.nil_append, List.append_assoc, List.getElem?_cons_zero, List.getElem?_cons_succ]); (try simp only [cm, cond_true, cond_false, pick_or, pick_and, Bool.or_eq_true, Bool.and_eq_true, Bool.or_eq_false_iff, Bool.and_eq_false_iff, Bool.not_eq_true', Bool.not_eq_false', decide_eq_true_eq, decide_eq_false_iff_not, beq_iff_eq, beq_eq_false_iff_ne, bne_iff_ne, bne_eq_false_iff_eq, ge_iff_le, gt_iff_lt, Int.not_lt, Int.not_le])); simp [meet_self vr]) ?_)
  refine .env (by (try simp only [letsOf, letU, snd, List.flatMap_cons, List.flatMap_nil, List.cons_append, List.nil_append, List.append_assoc, List.append_nil]); rfl) (.callV (c_meet r s or os) (fun _ => trivial) (.callV (c_meet (meetS r s) t om ot) (fun _ => trivial) (.callV (c_meet s t os ot) (fun _ => trivial) (.callV (c_meet r (meetS s t) or (.of_valid vst)) (fun _ => trivial) (.no (by ((try simp only [BT.eval, IT.eval, SV.den, SV.dens, Env.int, Env.bool, Env.val, Env.ptr, letsOf, letU, snd, List.flatMap_cons, List.flatMap_nil, List.cons_append, List.nil_append, List.append_assoc, List.getElem?_cons_zero, List.getElem?_cons_succ]); (try simp only [cm, cond_true, cond_false, pick_or, pick_and, Bool.or_eq_true, Bool.and_eq_true, Bool.or_eq_false_iff, Bool.and_eq_false_iff, Bool.not_eq_true', Bool.not_eq_false', decide_eq_true_eq, decide_eq_false_iff_not, beq_iff_eq, beq_eq_false_iff_ne, bne_iff_ne, bne_eq_false_iff_eq, ge_iff_le, gt_iff_lt, Int.not_lt, Int.not_le])); simp [meet_assoc vr vs vt]) ?_)))))
  refine .env (by (try simp only [letsOf, letU, snd, List.flatMap_cons, List.flatMap_nil, List.cons_append, List.nil_append, List.append_assoc, List.append_nil]); rfl) (.callV (c_meet r s or os) (fun _ => trivial) (.alloc fun _ => .callV (c_sat r s or os) (fun _ => trivial) (.yes (by ((try simp only [BT.eval, IT.eval, SV.den, SV.dens, Env.int, Env.bool, Env.val, Env.ptr, letsOf, letU, snd, List.flatMap_cons, List.flatMap_nil, List.cons_append, List.nil_append, List.append_assoc, List.getElem?_cons_zero, List.getElem?_cons_succ]); (try simp only [cm, cond_true, cond_false, pick_or, pick_and, Bool.or_eq_true, Bool.and_eq_true, Bool.or_eq_false_iff, Bool.and_eq_false_iff, Bool.not_eq_true', Bool.not_eq_false', decide_eq_true_eq, decide_eq_false_iff_not, beq_iff_eq, beq_eq_false_iff_ne, bne_iff_ne, bne_eq_false_iff_eq, ge_iff_le, gt_iff_lt, Int.not_lt, Int.not_le])); exact sat_is_meet vr vs) ?_)))
  refine .callV (c_sat r (meetS r s) or om) (fun _ => trivial) (.yes (sat_meet vr vs).1 (.callV (c_sat s (meetS r s) os om) (fun _ => trivial) (.yes (sat_meet vr vs).2 ?_)))
  have hd := diff_zero vr vs
  refine .env (by (try simp only [letsOf, letU, snd, List.flatMap_cons, List.flatMap_nil, List.cons_append, List.nil_append, List.append_assoc, List.append_nil]); rfl) (.callV (c_diff r s or os) (fun _ => trivial) (.yes (by ((try simp only [BT.eval, IT.eval, SV.den, SV.dens, Env.int, Env.bool, Env.val, Env.ptr, letsOf, letU, snd, List.flatMap_cons, List.flatMap_nil, List.cons_append, List.nil_append, List.append_assoc, List.getElem?_cons_zero, List.getElem?_cons_succ]); (try simp only [cm, cond_true, cond_false, pick_or, pick_and, Bool.or_eq_true, Bool.and_eq_true, Bool.or_eq_false_iff, Bool.and_eq_false_iff, Bool.not_eq_true', Bool.not_eq_false', decide_eq_true_eq, decide_eq_false_iff_not, beq_iff_eq, beq_eq_false_iff_ne, bne_iff_ne, bne_eq_false_iff_eq, ge_iff_le, gt_iff_lt, Int.not_lt, Int.not_le])); rw [Bool.eq_iff_iff]; simp [hd]; try omega) ?_))
  exact .callV c_works (fun g => hp.mono g.R) (.ret rfl rfl)
theorem l_FeatsTakes (x y : Snd) (k : Nat) (hx : Sok x) (hy : Sok y) (hk : k < 2 ^ 32) : RetP Tryd.prog n_law01_FeatsTakes [snd x, snd y, .int .u32 (k : Int)] TabOk (.bool true) := by
  refine Fn.of S_law01_FeatsTakes mx [.i x.1, .i x.2, .i y.1, .i y.2, .i k] rfl rfl fun c hp => .alloc fun _ => .alloc fun _ => ?_
  refine .callV (c_made x.1 x.2 hx.1 hx.2) (fun _ => trivial) (.callV (c_made y.1 y.2 hy.1 hy.2) (fun _ => trivial) ?_)
  obtain ⟨vs, os⟩ := madeOk x hx
  obtain ⟨vt, ot⟩ := madeOk y hy
  generalize madeS x.1 x.2 = s at *
  generalize madeS y.1 y.2 = t at *
  have em : ar .and .u32 (k : Int) 16777215 = ((k &&& 16777215 : Nat) : Int) := ar_and k 16777215 hk (by decide)
  have lm : k &&& 16777215 < 2 ^ 24 := and_all
  obtain ⟨q, eq, hq⟩ : ∃ q, k &&& 16777215 = q ∧ q < 2 ^ 24 := ⟨_, rfl, lm⟩
  rw [eq] at em
  have q32 : q < 2 ^ 32 := by omega
  have t1 := take_ok vs vt (x := q) (by omega)
  have t2 := take_ok vs vt (x := 16777215) (by omega)
  have t3 := take_ok vs vt (x := 0) (by omega)
  have t4 := take_ok vs vs (x := q) (by omega)
  rw [mix_all vs vt] at t2
  rw [mix_zero vs] at t3
  rw [mix_self vs] at t4
  have c1 := c_take s t q os ot q32
  have c2 := c_take s t 16777215 os ot (by decide)
  have c3 := c_take s t 0 os ot (by decide)
  have c4 := c_take s s q os os q32
  rw [t1] at c1; rw [t2] at c2; rw [t3] at c3; rw [t4] at c4
  have vm := mix_valid vs vt q
  have om := Sok.of_valid vm
  have hd := take_diff vs vt q
  generalize mixS s t q = u at *
  refine .alloc fun _ => .alloc fun _ => .callV c1 (fun _ => trivial) (.alloc fun _ => .callV c2 (fun _ => trivial) (.alloc fun _ => .callV c3 (fun _ => trivial) (.alloc fun _ => .callV c4 (fun _ => trivial) (.alloc fun _ => .no (by ((try simp only [BT.eval, IT.eval, SV.den, SV.dens, Env.int, Env.bool, Env.val, Env.ptr, letsOf, letU, snd, List.flatMap_cons, List.flatMap_nil, List.cons_append, List.nil_append, List.append_assoc, List.getElem?_cons_zero, List.getElem?_cons_succ]); (try simp only [cm, cond_true, cond_false, pick_or, pick_and, Bool.or_eq_true, Bool.and_eq_true, Bool.or_eq_false_iff, Bool.and_eq_false_iff, Bool.not_eq_true', Bool.not_eq_false', decide_eq_true_eq, decide_eq_false_iff_not, beq_iff_eq, beq_eq_false_iff_ne, bne_iff_ne, bne_eq_false_iff_eq, ge_iff_le, gt_iff_lt, Int.not_lt, Int.not_le])); simp) ?_) (hargs := by rw [← em]; rfl)))) (hargs := by rw [← em]; rfl)
  refine .callV (c_valid u om) (fun _ => trivial) (.no (by ((try simp only [BT.eval, IT.eval, SV.den, SV.dens, Env.int, Env.bool, Env.val, Env.ptr, letsOf, letU, snd, List.flatMap_cons, List.flatMap_nil, List.cons_append, List.nil_append, List.append_assoc, List.getElem?_cons_zero, List.getElem?_cons_succ]); (try simp only [cm, cond_true, cond_false, pick_or, pick_and, Bool.or_eq_true, Bool.and_eq_true, Bool.or_eq_false_iff, Bool.and_eq_false_iff, Bool.not_eq_true', Bool.not_eq_false', decide_eq_true_eq, decide_eq_false_iff_not, beq_iff_eq, beq_eq_false_iff_ne, bne_iff_ne, bne_eq_false_iff_eq, ge_iff_le, gt_iff_lt, Int.not_lt, Int.not_le])); simp [vm]) ?_)
  refine .env (by (try simp only [letsOf, letU, snd, List.flatMap_cons, List.flatMap_nil, List.cons_append, List.nil_append, List.append_assoc, List.append_nil]); rfl) (.callV (c_diff u t om ot) (fun _ => trivial) (.yes (by ((try simp only [BT.eval, IT.eval, SV.den, SV.dens, Env.int, Env.bool, Env.val, Env.ptr, letsOf, letU, snd, List.flatMap_cons, List.flatMap_nil, List.cons_append, List.nil_append, List.append_assoc, List.getElem?_cons_zero, List.getElem?_cons_succ]); (try simp only [cm, cond_true, cond_false, pick_or, pick_and, Bool.or_eq_true, Bool.and_eq_true, Bool.or_eq_false_iff, Bool.and_eq_false_iff, Bool.not_eq_true', Bool.not_eq_false', decide_eq_true_eq, decide_eq_false_iff_not, beq_iff_eq, beq_eq_false_iff_ne, bne_iff_ne, bne_eq_false_iff_eq, ge_iff_le, gt_iff_lt, Int.not_lt, Int.not_le])); rw [em, ar_and _ _ (Nat.lt_trans diff_lt (by decide)) q32, hd.1]; rfl) ?_))
  refine .callV (c_diff u s om os) (fun _ => trivial) (.yes (by ((try simp only [BT.eval, IT.eval, SV.den, SV.dens, Env.int, Env.bool, Env.val, Env.ptr, letsOf, letU, snd, List.flatMap_cons, List.flatMap_nil, List.cons_append, List.nil_append, List.append_assoc, List.getElem?_cons_zero, List.getElem?_cons_succ]); (try simp only [cm, cond_true, cond_false, pick_or, pick_and, Bool.or_eq_true, Bool.and_eq_true, Bool.or_eq_false_iff, Bool.and_eq_false_iff, Bool.not_eq_true', Bool.not_eq_false', decide_eq_true_eq, decide_eq_false_iff_not, beq_iff_eq, beq_eq_false_iff_ne, bne_iff_ne, bne_eq_false_iff_eq, ge_iff_le, gt_iff_lt, Int.not_lt, Int.not_le])); rw [em, ar_andNot _ _ (Nat.lt_trans diff_lt (by decide)), hd.2]; rfl) ?_)
  exact .callV c_works (fun g => hp.mono g.R) (.ret rfl rfl)
set_option maxHeartbeats 1000000 in
theorem l_FeatsUnifies (x y z : Snd) (hx : Sok x) (hy : Sok y) (hz : Sok z) : RetP Tryd.prog n_law01_FeatsUnifies [snd x, snd y, snd z] TabOk (.bool true) := by
  refine Fn.of S_law01_FeatsUnifies mx [.i x.1, .i x.2, .i y.1, .i y.2, .i z.1, .i z.2] rfl rfl fun c hp => .alloc fun _ => .alloc fun _ => .alloc fun _ => ?_
  refine .callV (c_made x.1 x.2 hx.1 hx.2) (fun _ => trivial) (.callV (c_made y.1 y.2 hy.1 hy.2) (fun _ => trivial) (.callV (c_made z.1 z.2 hz.1 hz.2) (fun _ => trivial) ?_))
  obtain ⟨vr, or⟩ := madeOk x hx
  obtain ⟨vs, os⟩ := madeOk y hy
  obtain ⟨vt, ot⟩ := madeOk z hz
  generalize madeS x.1 x.2 = r at *
  generalize madeS y.1 y.2 = s at *
  generalize madeS z.1 z.2 = t at *
  have e1 : ar .and .u32 (r.1 : Int) (s.2 : Int) = ((r.1 &&& s.2 : Nat) : Int) := ar_and _ _ or.1 os.2
  have e2 : ar .and .u32 (r.2 : Int) (s.1 : Int) = ((r.2 &&& s.1 : Nat) : Int) := ar_and _ _ or.2 os.1
  have c1 := c_unify r s or os
  have c2 := c_unify s r os or
  rw [unify_comm s r] at c2
  have hok := unify_ok vr vs
  cases hu : (unifyS r s).2 with
  | false =>
    have hb : satS t r = true → satS t s = false := fun h1 => by
      cases h2 : satS t s
      · rfl
      · rw [sat_both vr vs vt h1 h2] at hu; cases hu
    rw [unify_none hu] at c1 c2
    rw [hu] at hok
    have tail : ∀ {L : List Nat} {ρ : Env} {blks : List Blk} {m : Mem}, True := trivial
    refine .alloc fun _ => .alloc fun _ => .alloc fun _ => .callV c1 (fun _ => trivial) (.alloc fun _ => .callV c2 (fun _ => trivial) (.alloc fun _ => .ite (fun h1 => ?_) (fun h1 => ?_)))
    · ((try simp only [BT.eval, IT.eval, SV.den, SV.dens, Env.int, Env.bool, Env.val, Env.ptr, letsOf, letU, snd, List.flatMap_cons, List.flatMap_nil, List.cons_append, List.nil_append, List.append_assoc, List.getElem?_cons_zero, List.getElem?_cons_succ] at h1); (try simp only [cm, cond_true, cond_false, pick_or, pick_and, Bool.or_eq_true, Bool.and_eq_true, Bool.or_eq_false_iff, Bool.and_eq_false_iff, Bool.not_eq_true', Bool.not_eq_false', decide_eq_true_eq, decide_eq_false_iff_not, beq_iff_eq, beq_eq_false_iff_ne, bne_iff_ne, bne_eq_false_iff_eq, ge_iff_le, gt_iff_lt, Int.not_lt, Int.not_le] at h1))
      rw [e1] at h1
      have h2 : r.1 &&& s.2 = 0 := by omega
      rw [h2] at hok
      simp only [decide_true, Bool.true_and] at hok
      have h3 : ¬ r.2 &&& s.1 = 0 := by simpa using hok.symm
      refine .no (by ((try simp only [BT.eval, IT.eval, SV.den, SV.dens, Env.int, Env.bool, Env.val, Env.ptr, letsOf, letU, snd, List.flatMap_cons, List.flatMap_nil, List.cons_append, List.nil_append, List.append_assoc, List.getElem?_cons_zero, List.getElem?_cons_succ]); (try simp only [cm, cond_true, cond_false, pick_or, pick_and, Bool.or_eq_true, Bool.and_eq_true, Bool.or_eq_false_iff, Bool.and_eq_false_iff, Bool.not_eq_true', Bool.not_eq_false', decide_eq_true_eq, decide_eq_false_iff_not, beq_iff_eq, beq_eq_false_iff_ne, bne_iff_ne, bne_eq_false_iff_eq, ge_iff_le, gt_iff_lt, Int.not_lt, Int.not_le])); simp) (.no (by ((try simp only [BT.eval, IT.eval, SV.den, SV.dens, Env.int, Env.bool, Env.val, Env.ptr, letsOf, letU, snd, List.flatMap_cons, List.flatMap_nil, List.cons_append, List.nil_append, List.append_assoc, List.getElem?_cons_zero, List.getElem?_cons_succ]); (try simp only [cm, cond_true, cond_false, pick_or, pick_and, Bool.or_eq_true, Bool.and_eq_true, Bool.or_eq_false_iff, Bool.and_eq_false_iff, Bool.not_eq_true', Bool.not_eq_false', decide_eq_true_eq, decide_eq_false_iff_not, beq_iff_eq, beq_eq_false_iff_ne, bne_iff_ne, bne_eq_false_iff_eq, ge_iff_le, gt_iff_lt, Int.not_lt, Int.not_le])); rw [e2]; simp; omega) (.yes rfl (.yes rfl (.callV (c_sat t r ot or) (fun _ => trivial) (.ite (fun h4 => ?_) (fun h4 => .callV c_works (fun g => hp.mono g.R) (.ret rfl rfl)))))))
      exact .callV (c_sat t s ot os) (fun _ => trivial) (.yes (by have := hb h4; ((try simp only [BT.eval, IT.eval, SV.den, SV.dens, Env.int, Env.bool, Env.val, Env.ptr, letsOf, letU, snd, List.flatMap_cons, List.flatMap_nil, List.cons_append, List.nil_append, List.append_assoc, List.getElem?_cons_zero, List.getElem?_cons_succ]); (try simp only [cm, cond_true, cond_false, pick_or, pick_and, Bool.or_eq_true, Bool.and_eq_true, Bool.or_eq_false_iff, Bool.and_eq_false_iff, Bool.not_eq_true', Bool.not_eq_false', decide_eq_true_eq, decide_eq_false_iff_not, beq_iff_eq, beq_eq_false_iff_ne, bne_iff_ne, bne_eq_false_iff_eq, ge_iff_le, gt_iff_lt, Int.not_lt, Int.not_le])); simp [this]) (.callV c_works (fun g => hp.mono g.R) (.ret rfl rfl)))
    · refine .no (by ((try simp only [BT.eval, IT.eval, SV.den, SV.dens, Env.int, Env.bool, Env.val, Env.ptr, letsOf, letU, snd, List.flatMap_cons, List.flatMap_nil, List.cons_append, List.nil_append, List.append_assoc, List.getElem?_cons_zero, List.getElem?_cons_succ]); (try simp only [cm, cond_true, cond_false, pick_or, pick_and, Bool.or_eq_true, Bool.and_eq_true, Bool.or_eq_false_iff, Bool.and_eq_false_iff, Bool.not_eq_true', Bool.not_eq_false', decide_eq_true_eq, decide_eq_false_iff_not, beq_iff_eq, beq_eq_false_iff_ne, bne_iff_ne, bne_eq_false_iff_eq, ge_iff_le, gt_iff_lt, Int.not_lt, Int.not_le])); simp) (.yes rfl (.yes rfl (.callV (c_sat t r ot or) (fun _ => trivial) (.ite (fun h4 => ?_) (fun h4 => .callV c_works (fun g => hp.mono g.R) (.ret rfl rfl))))))
      exact .callV (c_sat t s ot os) (fun _ => trivial) (.yes (by have := hb h4; ((try simp only [BT.eval, IT.eval, SV.den, SV.dens, Env.int, Env.bool, Env.val, Env.ptr, letsOf, letU, snd, List.flatMap_cons, List.flatMap_nil, List.cons_append, List.nil_append, List.append_assoc, List.getElem?_cons_zero, List.getElem?_cons_succ]); (try simp only [cm, cond_true, cond_false, pick_or, pick_and, Bool.or_eq_true, Bool.and_eq_true, Bool.or_eq_false_iff, Bool.and_eq_false_iff, Bool.not_eq_true', Bool.not_eq_false', decide_eq_true_eq, decide_eq_false_iff_not, beq_iff_eq, beq_eq_false_iff_ne, bne_iff_ne, bne_eq_false_iff_eq, ge_iff_le, gt_iff_lt, Int.not_lt, Int.not_le])); simp [this]) (.callV c_works (fun g => hp.mono g.R) (.ret rfl rfl)))
  | true =>
    obtain ⟨vj, hj⟩ := unify_some vr vs hu
    have oj := Sok.of_valid vj
    obtain ⟨k1, k2, k3⟩ := sat_join vr vs vt vj
    rw [hj] at c1 c2
    rw [hu] at hok
    have hok' := hok.symm
    rw [Bool.and_eq_true, decide_eq_true_eq, decide_eq_true_eq] at hok'
    generalize joinS r s = u at *
    refine .alloc fun _ => .alloc fun _ => .alloc fun _ => .callV c1 (fun _ => trivial) (.alloc fun _ => .callV c2 (fun _ => trivial) (.alloc fun _ => .env (by (try simp only [letsOf, letU, snd, List.flatMap_cons, List.flatMap_nil, List.cons_append, List.nil_append, List.append_assoc, List.append_nil]); rfl) (.yes (by ((try simp only [BT.eval, IT.eval, SV.den, SV.dens, Env.int, Env.bool, Env.val, Env.ptr, letsOf, letU, snd, List.flatMap_cons, List.flatMap_nil, List.cons_append, List.nil_append, List.append_assoc, List.getElem?_cons_zero, List.getElem?_cons_succ]); (try simp only [cm, cond_true, cond_false, pick_or, pick_and, Bool.or_eq_true, Bool.and_eq_true, Bool.or_eq_false_iff, Bool.and_eq_false_iff, Bool.not_eq_true', Bool.not_eq_false', decide_eq_true_eq, decide_eq_false_iff_not, beq_iff_eq, beq_eq_false_iff_ne, bne_iff_ne, bne_eq_false_iff_eq, ge_iff_le, gt_iff_lt, Int.not_lt, Int.not_le])); rw [e1]; simp [hok'.1]) (.no (by ((try simp only [BT.eval, IT.eval, SV.den, SV.dens, Env.int, Env.bool, Env.val, Env.ptr, letsOf, letU, snd, List.flatMap_cons, List.flatMap_nil, List.cons_append, List.nil_append, List.append_assoc, List.getElem?_cons_zero, List.getElem?_cons_succ]); (try simp only [cm, cond_true, cond_false, pick_or, pick_and, Bool.or_eq_true, Bool.and_eq_true, Bool.or_eq_false_iff, Bool.and_eq_false_iff, Bool.not_eq_true', Bool.not_eq_false', decide_eq_true_eq, decide_eq_false_iff_not, beq_iff_eq, beq_eq_false_iff_ne, bne_iff_ne, bne_eq_false_iff_eq, ge_iff_le, gt_iff_lt, Int.not_lt, Int.not_le])); simp) (.no (by ((try simp only [BT.eval, IT.eval, SV.den, SV.dens, Env.int, Env.bool, Env.val, Env.ptr, letsOf, letU, snd, List.flatMap_cons, List.flatMap_nil, List.cons_append, List.nil_append, List.append_assoc, List.getElem?_cons_zero, List.getElem?_cons_succ]); (try simp only [cm, cond_true, cond_false, pick_or, pick_and, Bool.or_eq_true, Bool.and_eq_true, Bool.or_eq_false_iff, Bool.and_eq_false_iff, Bool.not_eq_true', Bool.not_eq_false', decide_eq_true_eq, decide_eq_false_iff_not, beq_iff_eq, beq_eq_false_iff_ne, bne_iff_ne, bne_eq_false_iff_eq, ge_iff_le, gt_iff_lt, Int.not_lt, Int.not_le])); rw [e2]; simp [hok'.2]) (.no rfl ?_))))))
    refine .env (by (try simp only [letsOf, letU, snd, List.flatMap_cons, List.flatMap_nil, List.cons_append, List.nil_append, List.append_assoc, List.append_nil]); rfl) ?_
    refine .callV (c_sat u r oj or) (fun _ => trivial) (.yes k1 (.callV (c_sat u s oj os) (fun _ => trivial) (.yes k2 ?_)))
    refine .callV (c_sat t u ot oj) (fun _ => trivial) (.callV (c_sat t r ot or) (fun _ => trivial) (.ite (fun h4 => ?_) (fun h4 => ?_)))
    · have h4' : satS t r = true := h4
      exact .callV (c_sat t s ot os) (fun _ => trivial) (.yes (by ((try simp only [BT.eval, IT.eval, SV.den, SV.dens, Env.int, Env.bool, Env.val, Env.ptr, letsOf, letU, snd, List.flatMap_cons, List.flatMap_nil, List.cons_append, List.nil_append, List.append_assoc, List.getElem?_cons_zero, List.getElem?_cons_succ]); (try simp only [cm, cond_true, cond_false, pick_or, pick_and, Bool.or_eq_true, Bool.and_eq_true, Bool.or_eq_false_iff, Bool.and_eq_false_iff, Bool.not_eq_true', Bool.not_eq_false', decide_eq_true_eq, decide_eq_false_iff_not, beq_iff_eq, beq_eq_false_iff_ne, bne_iff_ne, bne_eq_false_iff_eq, ge_iff_le, gt_iff_lt, Int.not_lt, Int.not_le])); rw [k3, h4']; simp) (.callV c_works (fun g => hp.mono g.R) (.ret rfl rfl)))
    · have h4' : satS t r = false := h4
      exact .yes (by ((try simp only [BT.eval, IT.eval, SV.den, SV.dens, Env.int, Env.bool, Env.val, Env.ptr, letsOf, letU, snd, List.flatMap_cons, List.flatMap_nil, List.cons_append, List.nil_append, List.append_assoc, List.getElem?_cons_zero, List.getElem?_cons_succ]); (try simp only [cm, cond_true, cond_false, pick_or, pick_and, Bool.or_eq_true, Bool.and_eq_true, Bool.or_eq_false_iff, Bool.and_eq_false_iff, Bool.not_eq_true', Bool.not_eq_false', decide_eq_true_eq, decide_eq_false_iff_not, beq_iff_eq, beq_eq_false_iff_ne, bne_iff_ne, bne_eq_false_iff_eq, ge_iff_le, gt_iff_lt, Int.not_lt, Int.not_le])); rw [k3, h4']; simp) (.callV c_works (fun g => hp.mono g.R) (.ret rfl rfl))
theorem l_FeatsChanged (x y : Snd) (k : Nat) (hx : Sok x) (hy : Sok y) (hk : k < 2 ^ 32) : RetP Tryd.prog n_law01_FeatsChanged [snd x, snd y, .int .u32 (k : Int)] TabOk (.bool true) := by
  refine Fn.of S_law01_FeatsChanged mx [.i x.1, .i x.2, .i y.1, .i y.2, .i k] rfl rfl fun c hp => .alloc fun _ => .alloc fun _ => ?_
  refine .callV (c_made x.1 x.2 hx.1 hx.2) (fun _ => trivial) (.callV (c_made y.1 y.2 hy.1 hy.2) (fun _ => trivial) ?_)
  obtain ⟨vs, os⟩ := madeOk x hx
  obtain ⟨vt, ot⟩ := madeOk y hy
  generalize madeS x.1 x.2 = s at *
  generalize madeS y.1 y.2 = t at *
  obtain ⟨lq, dq⟩ := clear_ok (k := k) vt
  have lm := and_all (x := k)
  have eo : ar .or .u32 (t.1 : Int) (t.2 : Int) = ((t.1 ||| t.2 : Nat) : Int) := ar_or _ _ ot.1 ot.2
  have em : ar .andNot .u32 (ar .and .u32 (k : Int) 16777215) (ar .or .u32 (t.1 : Int) (t.2 : Int)) = ((nandN (k &&& 16777215) (t.1 ||| t.2) : Nat) : Int) := by
    rw [eo]
    exact (congrArg (fun n => ar .andNot .u32 n _) (ar_and k 16777215 hk (by decide))).trans (ar_andNot _ _ (by omega))
  generalize nandN (k &&& 16777215) (t.1 ||| t.2) = q at *
  have q32 : q < 2 ^ 32 := by omega
  have t1 := change_ok vs vt lq dq
  have c1 := c_change s t q os ot q32
  rw [t1] at c1
  have vm := mix_valid vs vt (q ||| (t.1 ||| t.2))
  have om := Sok.of_valid vm
  have t2 := change_ok vm vt lq dq
  have c2 := c_change _ t q om ot q32
  rw [t2] at c2
  obtain ⟨k1, k2, k3, k4⟩ := change_law vs vt lq dq
  rw [k1] at c2
  generalize mixS s t (q ||| (t.1 ||| t.2)) = u at *
  refine .alloc fun _ => .alloc fun _ => .callV c1 (fun _ => trivial) (.alloc fun _ => .callV c2 (fun _ => trivial) (.alloc fun _ => .no (by ((try simp only [BT.eval, IT.eval, SV.den, SV.dens, Env.int, Env.bool, Env.val, Env.ptr, letsOf, letU, snd, List.flatMap_cons, List.flatMap_nil, List.cons_append, List.nil_append, List.append_assoc, List.getElem?_cons_zero, List.getElem?_cons_succ]); (try simp only [cm, cond_true, cond_false, pick_or, pick_and, Bool.or_eq_true, Bool.and_eq_true, Bool.or_eq_false_iff, Bool.and_eq_false_iff, Bool.not_eq_true', Bool.not_eq_false', decide_eq_true_eq, decide_eq_false_iff_not, beq_iff_eq, beq_eq_false_iff_ne, bne_iff_ne, bne_eq_false_iff_eq, ge_iff_le, gt_iff_lt, Int.not_lt, Int.not_le])); simp) ?_) (hargs := by rw [← em]; rfl)) (hargs := by rw [← em]; rfl)
  refine .callV (c_valid u om) (fun _ => trivial) (.no (by ((try simp only [BT.eval, IT.eval, SV.den, SV.dens, Env.int, Env.bool, Env.val, Env.ptr, letsOf, letU, snd, List.flatMap_cons, List.flatMap_nil, List.cons_append, List.nil_append, List.append_assoc, List.getElem?_cons_zero, List.getElem?_cons_succ]); (try simp only [cm, cond_true, cond_false, pick_or, pick_and, Bool.or_eq_true, Bool.and_eq_true, Bool.or_eq_false_iff, Bool.and_eq_false_iff, Bool.not_eq_true', Bool.not_eq_false', decide_eq_true_eq, decide_eq_false_iff_not, beq_iff_eq, beq_eq_false_iff_ne, bne_iff_ne, bne_eq_false_iff_eq, ge_iff_le, gt_iff_lt, Int.not_lt, Int.not_le])); simp [vm]) (.callV (c_sat u t om ot) (fun _ => trivial) (.no (by ((try simp only [BT.eval, IT.eval, SV.den, SV.dens, Env.int, Env.bool, Env.val, Env.ptr, letsOf, letU, snd, List.flatMap_cons, List.flatMap_nil, List.cons_append, List.nil_append, List.append_assoc, List.getElem?_cons_zero, List.getElem?_cons_succ]); (try simp only [cm, cond_true, cond_false, pick_or, pick_and, Bool.or_eq_true, Bool.and_eq_true, Bool.or_eq_false_iff, Bool.and_eq_false_iff, Bool.not_eq_true', Bool.not_eq_false', decide_eq_true_eq, decide_eq_false_iff_not, beq_iff_eq, beq_eq_false_iff_ne, bne_iff_ne, bne_eq_false_iff_eq, ge_iff_le, gt_iff_lt, Int.not_lt, Int.not_le])); rw [em, ar_or _ _ om.1 om.2, ar_and _ _ (Nat.or_lt_two_pow om.1 om.2) q32, k3, k2]; simp) ?_)))
  refine .env (by (try simp only [letsOf, letU, snd, List.flatMap_cons, List.flatMap_nil, List.cons_append, List.nil_append, List.append_assoc, List.append_nil]); rfl) (.callV (c_diff s u os om) (fun _ => trivial) (.yes (by
    ((try simp only [BT.eval, IT.eval, SV.den, SV.dens, Env.int, Env.bool, Env.val, Env.ptr, letsOf, letU, snd, List.flatMap_cons, List.flatMap_nil, List.cons_append, List.nil_append, List.append_assoc, List.getElem?_cons_zero, List.getElem?_cons_succ]); (try simp only [cm, cond_true, cond_false, pick_or, pick_and, Bool.or_eq_true, Bool.and_eq_true, Bool.or_eq_false_iff, Bool.and_eq_false_iff, Bool.not_eq_true', Bool.not_eq_false', decide_eq_true_eq, decide_eq_false_iff_not, beq_iff_eq, beq_eq_false_iff_ne, bne_iff_ne, bne_eq_false_iff_eq, ge_iff_le, gt_iff_lt, Int.not_lt, Int.not_le]))
    rw [em, ar_or _ _ q32 ot.1, ar_or _ _ (Nat.or_lt_two_pow q32 ot.1) ot.2, ar_andNot _ _ (Nat.lt_trans diff_lt (by decide)), Nat.or_assoc, k4]; rfl) ?_))
  exact .callV c_works (fun g => hp.mono g.R) (.ret rfl rfl)
end Go.Proofs.YtiocflikonfefaaDoor
