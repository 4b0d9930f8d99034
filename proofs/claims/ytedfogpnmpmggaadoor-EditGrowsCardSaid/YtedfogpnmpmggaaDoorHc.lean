/- EditGrows: what the law's code answers. -/
import Derived.Test.YtedfogpnmpmggaaDoorHb
import Derived.Test.YtedfogpnmpmggaaDoorPn
set_option linter.unusedSimpArgs false
set_option linter.unusedVariables false
namespace Go.Proofs.YtedfogpnmpmggaaDoor
open Go Go.Sy Go.RowKit
theorem bcells_take (V : Mv) (p : Option Addr) (x : List (Int × Int)) (k : Nat) (h : Cells V p (bcells x)) : Cells V p (bcells (x.take k)) := by
  refine Cells.take (ys := bcells (x.drop k)) ?_
  have e : bcells x = bcells (x.take k) ++ bcells (x.drop k) := by
    conv => lhs; rw [← List.take_append_drop k x]
    unfold bcells
    rw [List.flatMap_append]
  rw [← e]; exact h
theorem wcells_one (l : List Snd) : ∀ u ∈ wcells l, u.oneCell' = true := fun u hu => by
  obtain ⟨x, _, hx⟩ := List.mem_flatMap.1 hu
  simp only [scell, List.mem_cons, List.not_mem_nil, or_false] at hx
  rcases hx with rfl | rfl <;> rfl
theorem row_cap0 {m : Mem} {e : TypeId} {size : Nat} {q : Option Addr} {cap n : Nat} {xs : List Value} (h : Row m e size q cap n xs) (hq : q = none) : cap = 0 := by
  rcases h.2 with ⟨_, _, h⟩ | ⟨g, _, h, _⟩
  · exact h
  · rw [h] at hq; cases hq
theorem zero_if {p : Prop} [Decidable p] : (if p then (0 : Int) else 0) = 0 := by split <;> rfl
set_option maxHeartbeats 2000000 in
theorem l_EditGrows (px py pw : Option Addr) (cx cy cw : Nat) (x y : List (Int × Int)) (s : Int × Int) (ws : List Int) (g : Int) (hx : U8ok x) (hy : U8ok y) (hs : (Lit.int .u8 s.1).wf = true ∧ (Lit.int .u8 s.2).wf = true) (hw : ∀ w ∈ ws, (Lit.int .u16 w).wf = true) (hg : (Lit.int .u16 g).wf = true) (hcx : x.length ≤ cx) (hcy : y.length ≤ cy) :
    RetP Tryd.prog n_law17_EditGrows [slv px x.length cx, slv py y.length cy, .agg #[.int .u8 s.1, .int .u8 s.2], slv pw ws.length cw, .int .u16 g] (fun R => Cells R px (bcells x) ∧ Cells R py (bcells y) ∧ Cells R pw (ws.map (.int .u16)) ∧ TabOk R) (.bool true) := by
  refine Fn.of S_law17_EditGrows mx [.p px, .i x.length, .i cx, .p py, .i y.length, .i cy, .i s.1, .i s.2, .p pw, .i ws.length, .i cw, .i g] rfl rfl fun c hp => .alloc fun b0 => ?_
  obtain ⟨hp1, hp2, hp4, hp5⟩ := hp
  refine .chk (by ((try simp only [BT.eval, IT.eval, SV.den, SV.dens, Env.int, Env.bool, Env.val, Env.ptr, letsOf, letU, snd, List.flatMap_cons, List.flatMap_nil, List.cons_append, List.nil_append, List.append_assoc, List.getElem?_cons_zero, List.getElem?_cons_succ]); (try simp only [cm, cond_true, cond_false, pick_or, pick_and, Bool.or_eq_true, Bool.and_eq_true, Bool.or_eq_false_iff, Bool.and_eq_false_iff, Bool.not_eq_true', Bool.not_eq_false', decide_eq_true_eq, decide_eq_false_iff_not, beq_iff_eq, beq_eq_false_iff_ne, bne_iff_ne, bne_eq_false_iff_eq, ge_iff_le, gt_iff_lt, Int.not_lt, Int.not_le])); omega) (.join (fun us m' => us = [.p px, .i ((x.take 9).length : Nat), .i cx] ∧ m' = Mem.emp) (.ite (fun h => ?_) (fun h => ?_)) ?_)
  · ((try simp only [BT.eval, IT.eval, SV.den, SV.dens, Env.int, Env.bool, Env.val, Env.ptr, letsOf, letU, snd, List.flatMap_cons, List.flatMap_nil, List.cons_append, List.nil_append, List.append_assoc, List.getElem?_cons_zero, List.getElem?_cons_succ] at h); (try simp only [cm, cond_true, cond_false, pick_or, pick_and, Bool.or_eq_true, Bool.and_eq_true, Bool.or_eq_false_iff, Bool.and_eq_false_iff, Bool.not_eq_true', Bool.not_eq_false', decide_eq_true_eq, decide_eq_false_iff_not, beq_iff_eq, beq_eq_false_iff_ne, bne_iff_ne, bne_eq_false_iff_eq, ge_iff_le, gt_iff_lt, Int.not_lt, Int.not_le] at h))
    refine .chk (by ((try simp only [BT.eval, IT.eval, SV.den, SV.dens, Env.int, Env.bool, Env.val, Env.ptr, letsOf, letU, snd, List.flatMap_cons, List.flatMap_nil, List.cons_append, List.nil_append, List.append_assoc, List.getElem?_cons_zero, List.getElem?_cons_succ]); (try simp only [cm, cond_true, cond_false, pick_or, pick_and, Bool.or_eq_true, Bool.and_eq_true, Bool.or_eq_false_iff, Bool.and_eq_false_iff, Bool.not_eq_true', Bool.not_eq_false', decide_eq_true_eq, decide_eq_false_iff_not, beq_iff_eq, beq_eq_false_iff_ne, bne_iff_ne, bne_eq_false_iff_eq, ge_iff_le, gt_iff_lt, Int.not_lt, Int.not_le])); omega) (.again rfl ⟨?_, rfl⟩)
    (simp only [letsOf, letU, snd, List.flatMap_cons, List.flatMap_nil, Sh.uss, Sh.us, IT.eval, BT.eval, SV.den, SV.dens, Env.int, Env.bool, Env.val, Env.ptr, atAddr, map_add0, List.append_assoc, List.cons_append, List.nil_append, List.append_nil, List.getElem?_cons_zero, List.getElem?_cons_succ])
    show [U.p (Option.map (fun a => a.add (if (cx : Int) = 0 then (0 : Int) else 0).toNat) px), U.i 9, U.i cx] = _
    rw [zero_if, map_add0, List.length_take, Nat.min_eq_left (by omega)]; rfl
  · ((try simp only [BT.eval, IT.eval, SV.den, SV.dens, Env.int, Env.bool, Env.val, Env.ptr, letsOf, letU, snd, List.flatMap_cons, List.flatMap_nil, List.cons_append, List.nil_append, List.append_assoc, List.getElem?_cons_zero, List.getElem?_cons_succ] at h); (try simp only [cm, cond_true, cond_false, pick_or, pick_and, Bool.or_eq_true, Bool.and_eq_true, Bool.or_eq_false_iff, Bool.and_eq_false_iff, Bool.not_eq_true', Bool.not_eq_false', decide_eq_true_eq, decide_eq_false_iff_not, beq_iff_eq, beq_eq_false_iff_ne, bne_iff_ne, bne_eq_false_iff_eq, ge_iff_le, gt_iff_lt, Int.not_lt, Int.not_le] at h))
    refine .again rfl ⟨?_, rfl⟩
    (simp only [letsOf, letU, snd, List.flatMap_cons, List.flatMap_nil, Sh.uss, Sh.us, IT.eval, BT.eval, SV.den, SV.dens, Env.int, Env.bool, Env.val, Env.ptr, atAddr, map_add0, List.append_assoc, List.cons_append, List.nil_append, List.append_nil, List.getElem?_cons_zero, List.getElem?_cons_succ])
    rw [List.take_of_length_le (by omega)]
  rintro _ _ _ ⟨rfl, rfl⟩
  refine .env (by (try simp only [letsOf, letU, snd, List.flatMap_cons, List.flatMap_nil, List.cons_append, List.nil_append, List.append_assoc, List.append_nil]); rfl) (.chk (by ((try simp only [BT.eval, IT.eval, SV.den, SV.dens, Env.int, Env.bool, Env.val, Env.ptr, letsOf, letU, snd, List.flatMap_cons, List.flatMap_nil, List.cons_append, List.nil_append, List.append_assoc, List.getElem?_cons_zero, List.getElem?_cons_succ]); (try simp only [cm, cond_true, cond_false, pick_or, pick_and, Bool.or_eq_true, Bool.and_eq_true, Bool.or_eq_false_iff, Bool.and_eq_false_iff, Bool.not_eq_true', Bool.not_eq_false', decide_eq_true_eq, decide_eq_false_iff_not, beq_iff_eq, beq_eq_false_iff_ne, bne_iff_ne, bne_eq_false_iff_eq, ge_iff_le, gt_iff_lt, Int.not_lt, Int.not_le])); omega) (.join (fun us m' => us = [.p py, .i ((y.take 9).length : Nat), .i cy] ∧ m' = Mem.emp) (.ite (fun h => ?_) (fun h => ?_)) ?_))
  · ((try simp only [BT.eval, IT.eval, SV.den, SV.dens, Env.int, Env.bool, Env.val, Env.ptr, letsOf, letU, snd, List.flatMap_cons, List.flatMap_nil, List.cons_append, List.nil_append, List.append_assoc, List.getElem?_cons_zero, List.getElem?_cons_succ] at h); (try simp only [cm, cond_true, cond_false, pick_or, pick_and, Bool.or_eq_true, Bool.and_eq_true, Bool.or_eq_false_iff, Bool.and_eq_false_iff, Bool.not_eq_true', Bool.not_eq_false', decide_eq_true_eq, decide_eq_false_iff_not, beq_iff_eq, beq_eq_false_iff_ne, bne_iff_ne, bne_eq_false_iff_eq, ge_iff_le, gt_iff_lt, Int.not_lt, Int.not_le] at h))
    refine .chk (by ((try simp only [BT.eval, IT.eval, SV.den, SV.dens, Env.int, Env.bool, Env.val, Env.ptr, letsOf, letU, snd, List.flatMap_cons, List.flatMap_nil, List.cons_append, List.nil_append, List.append_assoc, List.getElem?_cons_zero, List.getElem?_cons_succ]); (try simp only [cm, cond_true, cond_false, pick_or, pick_and, Bool.or_eq_true, Bool.and_eq_true, Bool.or_eq_false_iff, Bool.and_eq_false_iff, Bool.not_eq_true', Bool.not_eq_false', decide_eq_true_eq, decide_eq_false_iff_not, beq_iff_eq, beq_eq_false_iff_ne, bne_iff_ne, bne_eq_false_iff_eq, ge_iff_le, gt_iff_lt, Int.not_lt, Int.not_le])); omega) (.again rfl ⟨?_, rfl⟩)
    (simp only [letsOf, letU, snd, List.flatMap_cons, List.flatMap_nil, Sh.uss, Sh.us, IT.eval, BT.eval, SV.den, SV.dens, Env.int, Env.bool, Env.val, Env.ptr, atAddr, map_add0, List.append_assoc, List.cons_append, List.nil_append, List.append_nil, List.getElem?_cons_zero, List.getElem?_cons_succ])
    show [U.p (Option.map (fun a => a.add (if (cy : Int) = 0 then (0 : Int) else 0).toNat) py), U.i 9, U.i cy] = _
    rw [zero_if, map_add0, List.length_take, Nat.min_eq_left (by omega)]; rfl
  · ((try simp only [BT.eval, IT.eval, SV.den, SV.dens, Env.int, Env.bool, Env.val, Env.ptr, letsOf, letU, snd, List.flatMap_cons, List.flatMap_nil, List.cons_append, List.nil_append, List.append_assoc, List.getElem?_cons_zero, List.getElem?_cons_succ] at h); (try simp only [cm, cond_true, cond_false, pick_or, pick_and, Bool.or_eq_true, Bool.and_eq_true, Bool.or_eq_false_iff, Bool.and_eq_false_iff, Bool.not_eq_true', Bool.not_eq_false', decide_eq_true_eq, decide_eq_false_iff_not, beq_iff_eq, beq_eq_false_iff_ne, bne_iff_ne, bne_eq_false_iff_eq, ge_iff_le, gt_iff_lt, Int.not_lt, Int.not_le] at h))
    refine .again rfl ⟨?_, rfl⟩
    (simp only [letsOf, letU, snd, List.flatMap_cons, List.flatMap_nil, Sh.uss, Sh.us, IT.eval, BT.eval, SV.den, SV.dens, Env.int, Env.bool, Env.val, Env.ptr, atAddr, map_add0, List.append_assoc, List.cons_append, List.nil_append, List.append_nil, List.getElem?_cons_zero, List.getElem?_cons_succ])
    rw [List.take_of_length_le (by omega)]
  rintro _ _ _ ⟨rfl, rfl⟩
  replace hp1 := bcells_take _ _ x 9 hp1
  replace hp2 := bcells_take _ _ y 9 hp2
  have hx' : U8ok (x.take 9) := fun a ha => hx a (List.mem_of_mem_take ha)
  have hy' : U8ok (y.take 9) := fun a ha => hy a (List.mem_of_mem_take ha)
  have lx : (x.take 9).length ≤ 9 := by simp; omega
  have ly : (y.take 9).length ≤ 9 := by simp; omega
  refine .env (by (try simp only [letsOf, letU, snd, List.flatMap_cons, List.flatMap_nil, List.cons_append, List.nil_append, List.append_assoc, List.append_nil]); rfl) (.callM (c_mkW px cx (x.take 9) hx') rfl rfl (fun g => hp1.mono g.R) ?_)
  rintro v mq1 hf1 ⟨q1, k1, rfl, hr1⟩
  refine ⟨[.p q1, .i (madeW (x.take 9)).length, .i k1], ⟨_, _, _, rfl⟩, (slv_fresh _ _ _ _ _).symm, ?_⟩
  replace hr1 := hr1.joinR (m := Mem.emp) fun b hb => (hf1 b hb).1
  refine .env (by (try simp only [letsOf, letU, snd, List.flatMap_cons, List.flatMap_nil, List.cons_append, List.nil_append, List.append_assoc, List.append_nil]); rfl) (.callM (c_mkW py cy (y.take 9) hy') rfl rfl (fun g => hp2.mono g.R) ?_)
  rintro v mq2 hf2 ⟨q2, k2, rfl, hr2⟩
  refine ⟨[.p q2, .i (madeW (y.take 9)).length, .i k2], ⟨_, _, _, rfl⟩, (slv_fresh _ _ _ _ _).symm, ?_⟩
  replace hr2 := hr2.joinR fun b hb => (hf2 b hb).1
  replace hr1 := hr1.joinL (mq := mq2)
  refine .env (by (try simp only [letsOf, letU, snd, List.flatMap_cons, List.flatMap_nil, List.cons_append, List.nil_append, List.append_assoc, List.append_nil]); rfl) (.callM (c_mkC pw cw ws g hw hg) rfl rfl (fun g => hp4.mono g.R) ?_)
  rintro v mq4 hf4 ⟨q4, k4, rfl, hr4⟩
  refine ⟨[.p q4, .i (costsW ws).length, .i k4, .i (g % 1000)], uOk_of rfl, (costs_fresh _ _ _ _ _ _).symm, ?_⟩
  replace hr4 := hr4.joinR fun b hb => (hf4 b hb).1
  replace hr1 := hr1.joinL (mq := mq4)
  replace hr2 := hr2.joinL (mq := mq4)
  generalize Mem.join _ mq4 = m at *
  obtain ⟨cc, cw0, cl⟩ := costsW_ok hw hg
  have hga := costsW_gap hg
  have va := madeW_ok hx'
  have vb := madeW_ok hy'
  have la : (madeW (x.take 9)).length ≤ 9 := by simp [madeW]; omega
  have lb : (madeW (y.take 9)).length ≤ 9 := by simp [madeW]; omega
  generalize madeW (x.take 9) = a at *
  generalize madeW (y.take 9) = b at *
  generalize costsW ws = cs at *
  generalize g % 1000 = gap at *
  have pos : ∀ s t, 0 ≤ d0 cs s t := fun s t => sumW_nonneg _ cs cw0
  have vs := mkS_valid hs
  have r1 := u8_range hs.1
  have r2 := u8_range hs.2
  have k1' : Ret Tryd.prog n_law01_Made [.int .u32 (s.1.toNat : Int), .int .u32 (s.2.toNat : Int)] (.agg #[.int .u32 (((mkS s).1 : Nat) : Int), .int .u32 (((mkS s).2 : Nat) : Int)]) := c_made s.1.toNat s.2.toNat (by omega) (by omega)
  generalize mkS s = S at *
  have w1 : IntKind.u32.wrap s.1 = ((s.1.toNat : Nat) : Int) := by
    have := wrap_u32 s.1.toNat (by omega)
    rwa [Int.toNat_of_nonneg r1.1] at this ⊢
  have w2 : IntKind.u32.wrap s.2 = ((s.2.toNat : Nat) : Int) := by
    have := wrap_u32 s.2.toNat (by omega)
    rwa [Int.toNat_of_nonneg r2.1] at this ⊢
  refine .env (by (try simp only [letsOf, letU, snd, List.flatMap_cons, List.flatMap_nil, List.cons_append, List.nil_append, List.append_assoc, List.append_nil]); rfl) (.alloc fun b1 => .callV k1' (fun _ => trivial) (.alloc fun b2 => ?_) (hargs := by rw [← w1, ← w2]; rfl))
  have hself := d0_self cs
  have htri := d0_tri cs cw0
  have vs1 : ∀ {l : List Snd}, Vok l → l.length ≤ 9 → Vok (S :: l) := fun {l} h hl => ⟨by simp; omega, fun u hu => (List.mem_cons.1 hu).elim (fun e => e ▸ vs) (h.val u)⟩
  have vs2 : Vok (a ++ [S]) := ⟨by simp; omega, fun u hu => (List.mem_append.1 hu).elim (va.val u) (fun e => by rw [List.mem_singleton.1 e]; exact vs)⟩
  have va1 := vs1 va la
  have vb1 := vs1 vb lb
  have hfr := rst_front (d := d0 cs) hga.1 pos hself htri S a b
  have hend := rst_end (d := d0 cs) hga.1 pos hself htri S a b
  have hp0 := rst_pos hga.1 pos a b
  have hle := rst_le (d := d0 cs) (g := gap) a b
  have hbn : gap * ((a.length + b.length : Nat) : Int) ≤ 1000 * 64 := Int.le_trans (Int.mul_le_mul_of_nonneg_right (Int.le_of_lt hga.2) (by omega)) (by omega)
  have d1 := c_editDist ⟨q1, k1, a⟩ ⟨q2, k2, b⟩ q4 k4 cs gap va.wok vb.wok
  simp only [distE_ok cc va vb] at d1
  refine .env (by (try simp only [letsOf, letU, snd, List.flatMap_cons, List.flatMap_nil, List.cons_append, List.nil_append, List.append_assoc, List.append_nil]); rfl) (.callV d1 (fun g => ⟨hr1.reads g, hr2.reads g, hr4.reads g, hp5.mono g.R⟩) (.alloc fun b3 => ?_))
  refine .env (by (try simp only [letsOf, letU, snd, List.flatMap_cons, List.flatMap_nil, List.cons_append, List.nil_append, List.append_assoc, List.append_nil]); rfl) (.appendOwn (b0 := b3) (n := 1) (xs := scell S) (qx := q1) (kx := a.length) (capx := k1) (news := wcells a) el22 rfl (fun g => g.cells (j := 3) rfl rfl rfl) (fun g => hr1.reads g) (wcells_len a) (wcells_one a) (row_cap0 hr1) (by simp [maxLen]; omega) (by omega) (fun q5 k5 m5 hr5 h05 hk5 => ?_))
  replace hr1 := hr1.keep fun g _ h => hk5 g h
  replace hr2 := hr2.keep fun g _ h => hk5 g h
  replace hr4 := hr4.keep fun g _ h => hk5 g h
  refine .env (by (try simp only [letsOf, letU, snd, List.flatMap_cons, List.flatMap_nil, List.cons_append, List.nil_append, List.append_assoc, List.append_nil]); rfl) (.alloc fun b4 => .appendOwn (b0 := b4) (n := 1) (xs := scell S) (qx := q2) (kx := b.length) (capx := k2) (news := wcells b) el22 rfl (fun g => g.cells (j := 4) rfl rfl rfl) (fun g => hr2.reads g) (wcells_len b) (wcells_one b) (row_cap0 hr2) (by simp [maxLen]; omega) (by omega) (fun q6 k6 m6 hr6 h06 hk6 => ?_))
  replace hr1 := hr1.keep fun g _ h => hk6 g h
  replace hr2 := hr2.keep fun g _ h => hk6 g h
  replace hr4 := hr4.keep fun g _ h => hk6 g h
  replace hr5 : a.length ≠ 0 → Row m6 56 2 q5 k5 (1 + a.length) (scell S ++ wcells a) := fun h => (hr5 h).1.keep fun g _ h => hk6 g h
  have d2 := c_editDist ⟨q5, k5, S :: a⟩ ⟨q6, k6, S :: b⟩ q4 k4 cs gap va1.wok vb1.wok
  simp only [distE_ok cc va1 vb1, hfr] at d2
  refine .env (by (try simp only [letsOf, letU, snd, List.flatMap_cons, List.flatMap_nil, List.cons_append, List.nil_append, List.append_assoc, List.append_nil]); rw [Nat.add_comm 1 a.length, Nat.add_comm 1 b.length]) (.callV d2 (fun g => ⟨?_, ?_, hr4.reads g, hp5.mono g.R⟩) (.alloc fun b5 => ?_))
  · by_cases h : a.length = 0
    · rw [(h05 h).1, List.length_eq_zero_iff.1 h]; exact g.cells (j := 3) rfl rfl rfl
    · exact (hr5 h).reads g
  · by_cases h : b.length = 0
    · rw [(h06 h).1, List.length_eq_zero_iff.1 h]; exact g.cells (j := 4) rfl rfl rfl
    · exact (hr6 h).1.reads g
  have e1 : ar .add .i64 (rst (d0 cs) gap a b) gap = rst (d0 cs) gap a b + gap := addI (by omega) (by omega)
  have e2 : ar .sub .i64 (rst (d0 cs) gap a b) gap = rst (d0 cs) gap a b - gap := subI (by omega) (by omega)
  clear d1 d2 hr5 hr6 h05 h06
  by_cases h : a.length = 0
  · have ha := List.length_eq_zero_iff.1 h
    subst ha
    refine .env (by (try simp only [letsOf, letU, snd, List.flatMap_cons, List.flatMap_nil, List.cons_append, List.nil_append, List.append_assoc, List.append_nil]); rfl) (.appendOwn (b0 := b5) (n := 0) (xs := []) (qx := q1) (kx := 0) (capx := k1) (news := []) el22 rfl (fun _ i x h => by simp at h) (fun _ i x h => by simp at h) rfl (by simp) (row_cap0 hr1) (by simp [maxLen]) (by simp) (fun q7 k7 m7 _ h07 hk7 => ?_))
    obtain ⟨rfl, rfl⟩ := h07 rfl
    replace hr2 := hr2.keep fun g _ h => hk7 g h
    replace hr4 := hr4.keep fun g _ h => hk7 g h
    refine .env (by (try simp only [letsOf, letU, snd, List.flatMap_cons, List.flatMap_nil, List.cons_append, List.nil_append, List.append_assoc, List.append_nil]); rfl) (.alloc fun b6 => .appendOwn (b0 := b5) (n := 0) (xs := []) (qx := some ⟨b6, 0, none⟩) (kx := 1) (capx := 1) (news := scell S) el22 rfl (fun _ i x h => by simp at h) (fun g => g.cells (j := 6) rfl rfl rfl) rfl (by simp [scell, Value.oneCell']) (fun h => by cases h) (by simp [maxLen]) (by omega) (fun q8 k8 m8 hr8 _ hk8 => ?_))
    replace hr8 := (hr8 (by omega)).1
    replace hr2 := hr2.keep fun g _ h => hk8 g h
    replace hr4 := hr4.keep fun g _ h => hk8 g h
    have d3 := c_editDist ⟨q8, k8, [] ++ [S]⟩ ⟨q2, k2, b⟩ q4 k4 cs gap vs2.wok vb.wok
    simp only [distE_ok cc vs2 vb] at d3
    refine .env (by (try simp only [letsOf, letU, snd, List.flatMap_cons, List.flatMap_nil, List.cons_append, List.nil_append, List.append_assoc, List.append_nil]); rfl) (.callV d3 (fun g => ⟨hr8.reads g, hr2.reads g, hr4.reads g, hp5.mono g.R⟩) (.yes ?_ (.callV c_works17 (fun g => hp5.mono g.R) (.ret rfl rfl))))
    ((try simp only [BT.eval, IT.eval, SV.den, SV.dens, Env.int, Env.bool, Env.val, Env.ptr, letsOf, letU, snd, List.flatMap_cons, List.flatMap_nil, List.cons_append, List.nil_append, List.append_assoc, List.getElem?_cons_zero, List.getElem?_cons_succ]); (try simp only [cm, cond_true, cond_false, pick_or, pick_and, Bool.or_eq_true, Bool.and_eq_true, Bool.or_eq_false_iff, Bool.and_eq_false_iff, Bool.not_eq_true', Bool.not_eq_false', decide_eq_true_eq, decide_eq_false_iff_not, beq_iff_eq, beq_eq_false_iff_ne, bne_iff_ne, bne_eq_false_iff_eq, ge_iff_le, gt_iff_lt, Int.not_lt, Int.not_le]))
    rw [e1, e2]
    exact ⟨⟨⟨⟨⟨trivial, trivial⟩, trivial⟩, trivial⟩, hend.1⟩, hend.2⟩
  · obtain ⟨g1, hq1⟩ : ∃ g1, q1 = some ⟨g1, 0, none⟩ := by
      rcases hr1.2 with ⟨_, h', _⟩ | ⟨g1, _, h', _⟩
      · exact absurd h' h
      · exact ⟨g1, h'⟩
    subst hq1
    refine .env (by (try simp only [letsOf, letU, snd, List.flatMap_cons, List.flatMap_nil, List.cons_append, List.nil_append, List.append_assoc, List.append_nil]); rfl) (.appendNew (b0 := b5) (xa := ⟨g1, 0, none⟩) (kx := a.length) (capx := k1) (news := wcells a) el22 (by omega) (fun g => hr1.reads g) (wcells_len a) (by simp [maxLen]; omega) (by omega) (fun g7 k7 hcn hmn hle7 => ?_))
    refine .env (by (try simp only [letsOf, letU, snd, List.flatMap_cons, List.flatMap_nil, List.cons_append, List.nil_append, List.append_assoc, List.append_nil]); rfl) (.alloc fun b6 => .appendC (gq := g7) (cap := k7) (n := a.length) (xs := wcells a) (xa := ⟨b6, 0, none⟩) (kx := 1) (capx := 1) (news := scell S) el22 hcn hmn (by omega) (by omega) (wcells_len a) hle7 (fun g => g.cells (j := 6) rfl rfl rfl) rfl (by simp [scell, Value.oneCell']) (by simp [maxLen]; omega) (by omega) (fun q8 k8 c2 hsub hR hq8 => ?_))
    obtain ⟨g8, rfl⟩ := hq8
    have d3 := c_editDist ⟨some ⟨g8, 0, none⟩, k8, a ++ [S]⟩ ⟨q2, k2, b⟩ q4 k4 cs gap vs2.wok vb.wok
    simp only [distE_ok cc vs2 vb] at d3
    refine .env (by (try simp only [letsOf, letU, snd, List.flatMap_cons, List.flatMap_nil, List.cons_append, List.nil_append, List.append_assoc, List.append_nil]); rw [show a.length + 1 = (a ++ [S]).length by simp]) (.callV d3 (fun g => ⟨fun i u hu => ⟨g8, 0, rfl, g.R _ _ _ (hR g8 0 u rfl i (by rw [← show wcells (a ++ [S]) = wcells a ++ scell S from wcells_append a [S]]; exact hu))⟩, hr2.reads g, hr4.reads g, hp5.mono (hsub.R.trans g.R)⟩) (.yes ?_ (.callV c_works17 (fun g => hp5.mono (hsub.R.trans g.R)) (.retS hsub rfl rfl))))
    ((try simp only [BT.eval, IT.eval, SV.den, SV.dens, Env.int, Env.bool, Env.val, Env.ptr, letsOf, letU, snd, List.flatMap_cons, List.flatMap_nil, List.cons_append, List.nil_append, List.append_assoc, List.getElem?_cons_zero, List.getElem?_cons_succ]); (try simp only [cm, cond_true, cond_false, pick_or, pick_and, Bool.or_eq_true, Bool.and_eq_true, Bool.or_eq_false_iff, Bool.and_eq_false_iff, Bool.not_eq_true', Bool.not_eq_false', decide_eq_true_eq, decide_eq_false_iff_not, beq_iff_eq, beq_eq_false_iff_ne, bne_iff_ne, bne_eq_false_iff_eq, ge_iff_le, gt_iff_lt, Int.not_lt, Int.not_le]))
    rw [e1, e2]
    exact ⟨⟨⟨⟨⟨trivial, trivial⟩, trivial⟩, trivial⟩, hend.1⟩, hend.2⟩
end Go.Proofs.YtedfogpnmpmggaaDoor
