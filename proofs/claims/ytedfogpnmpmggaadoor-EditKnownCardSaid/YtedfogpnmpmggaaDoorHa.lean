/- EditMetric: what the law's code answers. -/
import Derived.Test.YtedfogpnmpmggaaDoorGi
set_option linter.unusedSimpArgs false
set_option linter.unusedVariables false
namespace Go.Sy
open Go Go.RowKit
theorem costs_fresh (ρ : Env) (L : List Nat) (q : Option Addr) (n cap : Nat) (gap : Int) : ((Sh.agg [.sl, .int .i64]).fresh ρ.length).1.den L (ρ ++ [.p q, .i n, .i cap, .i gap]) = costs q n cap gap := by
  have e0 := getElem_env ρ [.p q, .i n, .i cap, .i gap] 0
  have e1 := getElem_env ρ [.p q, .i n, .i cap, .i gap] 1
  have e2 := getElem_env ρ [.p q, .i n, .i cap, .i gap] 2
  have e3 := getElem_env ρ [.p q, .i n, .i cap, .i gap] 3
  rw [Nat.add_zero] at e0
  simp only [Sh.fresh, Sh.freshs, SV.den, SV.dens, IT.eval, atAddr, Env.ptr, Env.int]
  rw [e0, e1, e2, e3]
  simp only [List.getElem?_cons_zero, List.getElem?_cons_succ, costs, slv]
  cases q <;> simp [addr_zero]
theorem lowest_ok {n d : Int} (hn : 0 ≤ n) (hnd : n ≤ d) (hd : 0 < d) : 1 ≤ (lowest n d).2 ∧ 0 ≤ (lowest n d).1 ∧ (lowest n d).1 ≤ (lowest n d).2 ∧ n * (lowest n d).2 = (lowest n d).1 * d ∧ (lowest n d).1 ≤ n ∧ (lowest n d).2 ≤ d := by
  obtain ⟨n', rfl⟩ := Int.eq_ofNat_of_zero_le hn
  obtain ⟨d', rfl⟩ := Int.eq_ofNat_of_zero_le (Int.le_of_lt hd)
  obtain ⟨N, hN⟩ := Nat.gcd_dvd_left n' d'
  obtain ⟨D, hD⟩ := Nat.gcd_dvd_right n' d'
  have hg : 0 < Nat.gcd n' d' := Nat.gcd_pos_of_pos_right n' (by omega)
  have hgc : gcdI (n' : Int) (d' : Int) = (Nat.gcd n' d' : Nat) := by unfold gcdI; simp
  have h1 : (lowest (n' : Int) (d' : Int)).1 = (N : Int) := by
    show (n' : Int).tdiv (gcdI n' d') = _
    rw [hgc]
    conv => lhs; lhs; rw [hN]
    rw [Int.natCast_mul]
    exact Int.mul_tdiv_cancel_left _ (by omega)
  have h2 : (lowest (n' : Int) (d' : Int)).2 = (D : Int) := by
    show (d' : Int).tdiv (gcdI n' d') = _
    rw [hgc]
    conv => lhs; lhs; rw [hD]
    rw [Int.natCast_mul]
    exact Int.mul_tdiv_cancel_left _ (by omega)
  rw [h1, h2]
  generalize Nat.gcd n' d' = g at *
  have hle : N ≤ D := Nat.le_of_mul_le_mul_left (by rw [← hN, ← hD]; omega) hg
  have hD0 : D ≠ 0 := fun e => by rw [e, Nat.mul_zero] at hD; omega
  refine ⟨by omega, by omega, by omega, ?_, ?_, ?_⟩
  · rw [hN, hD, Int.natCast_mul, Int.natCast_mul, Int.mul_comm (g : Int) N, Int.mul_assoc]
  · have : N ≤ g * N := Nat.le_mul_of_pos_left N hg
    omega
  · have : D ≤ g * D := Nat.le_mul_of_pos_left D hg
    omega
theorem flatMap_one {α β : Type} (f : α → β) (l : List α) : l.flatMap (fun x => [f x]) = l.map f := by
  induction l with
  | nil => rfl
  | cons x l ih => simp [ih]
end Go.Sy
namespace Go.Proofs.YtedfogpnmpmggaaDoor
open Go Go.Sy Go.RowKit
theorem costsW_gap {g : Int} (hg : (Lit.int .u16 g).wf = true) : 0 ≤ g % 1000 ∧ g % 1000 < 1000 := by have := u16_rng hg; omega
set_option maxHeartbeats 1000000 in
theorem l_EditMetric (px py pz pw : Option Addr) (cx cy cz cw : Nat) (x y z : List (Int × Int)) (ws : List Int) (g : Int) (hx : U8ok x) (hy : U8ok y) (hz : U8ok z) (hw : ∀ w ∈ ws, (Lit.int .u16 w).wf = true) (hg : (Lit.int .u16 g).wf = true) :
    RetP Tryd.prog n_law17_EditMetric [slv px x.length cx, slv py y.length cy, slv pz z.length cz, slv pw ws.length cw, .int .u16 g] (fun R => Cells R px (bcells x) ∧ Cells R py (bcells y) ∧ Cells R pz (bcells z) ∧ Cells R pw (ws.map (.int .u16)) ∧ TabOk R) (.bool true) := by
  refine Fn.of S_law17_EditMetric mx [.p px, .i x.length, .i cx, .p py, .i y.length, .i cy, .p pz, .i z.length, .i cz, .p pw, .i ws.length, .i cw, .i g] rfl rfl fun c hp => ?_
  obtain ⟨hp1, hp2, hp3, hp4, hp5⟩ := hp
  refine .callM (c_mkW px cx x hx) rfl rfl (fun g => hp1.mono g.R) ?_
  rintro v mq1 hf1 ⟨q1, k1, rfl, hr1⟩
  refine ⟨[.p q1, .i (madeW x).length, .i k1], ⟨_, _, _, rfl⟩, (slv_fresh _ _ _ _ _).symm, ?_⟩
  replace hr1 := hr1.joinR (m := Mem.emp) fun b hb => (hf1 b hb).1
  refine .env (by (try simp only [liE, letsOf, letU, snd, List.append_nil]); rfl) (.callM (c_mkW py cy y hy) rfl rfl (fun g => hp2.mono g.R) ?_)
  rintro v mq2 hf2 ⟨q2, k2, rfl, hr2⟩
  refine ⟨[.p q2, .i (madeW y).length, .i k2], ⟨_, _, _, rfl⟩, (slv_fresh _ _ _ _ _).symm, ?_⟩
  replace hr2 := hr2.joinR fun b hb => (hf2 b hb).1
  replace hr1 := hr1.joinL (mq := mq2)
  refine .env (by (try simp only [liE, letsOf, letU, snd, List.append_nil]); rfl) (.callM (c_mkW pz cz z hz) rfl rfl (fun g => hp3.mono g.R) ?_)
  rintro v mq3 hf3 ⟨q3, k3, rfl, hr3⟩
  refine ⟨[.p q3, .i (madeW z).length, .i k3], ⟨_, _, _, rfl⟩, (slv_fresh _ _ _ _ _).symm, ?_⟩
  replace hr3 := hr3.joinR fun b hb => (hf3 b hb).1
  replace hr1 := hr1.joinL (mq := mq3)
  replace hr2 := hr2.joinL (mq := mq3)
  refine .env (by (try simp only [liE, letsOf, letU, snd, List.append_nil]); rfl) (.callM (c_mkC pw cw ws g hw hg) rfl rfl (fun g => hp4.mono g.R) ?_)
  rintro v mq4 hf4 ⟨q4, k4, rfl, hr4⟩
  refine ⟨[.p q4, .i (costsW ws).length, .i k4, .i (g % 1000)], uOk_of rfl, (costs_fresh _ _ _ _ _ _).symm, ?_⟩
  replace hr4 := hr4.joinR fun b hb => (hf4 b hb).1
  replace hr1 := hr1.joinL (mq := mq4)
  replace hr2 := hr2.joinL (mq := mq4)
  replace hr3 := hr3.joinL (mq := mq4)
  generalize Mem.join _ mq4 = m at *
  obtain ⟨cc, cw0, cl⟩ := costsW_ok hw hg
  have hga := costsW_gap hg
  have va := madeW_ok hx
  have vb := madeW_ok hy
  have vw' := madeW_ok hz
  have la : (madeW x).length ≤ 10 := by simp [madeW]; omega
  have lb : (madeW y).length ≤ 10 := by simp [madeW]; omega
  generalize madeW x = a at *
  generalize madeW y = b at *
  generalize madeW z = w at *
  generalize costsW ws = cs at *
  generalize g % 1000 = gap at *
  have pos : ∀ s t, 0 ≤ d0 cs s t := fun s t => sumW_nonneg _ cs cw0
  have d1 := c_editDist ⟨q1, k1, a⟩ ⟨q2, k2, b⟩ q4 k4 cs gap va.wok vb.wok
  have d2 := c_editDist ⟨q2, k2, b⟩ ⟨q1, k1, a⟩ q4 k4 cs gap vb.wok va.wok
  have d3 := c_editDist ⟨q1, k1, a⟩ ⟨q3, k3, w⟩ q4 k4 cs gap va.wok vw'.wok
  have d4 := c_editDist ⟨q3, k3, w⟩ ⟨q2, k2, b⟩ q4 k4 cs gap vw'.wok vb.wok
  have d5 := c_editDist ⟨q1, k1, a⟩ ⟨q1, k1, a⟩ q4 k4 cs gap va.wok va.wok
  have d6 := c_editRatio ⟨q1, k1, a⟩ ⟨q2, k2, b⟩ q4 k4 cs gap va.wok vb.wok
  simp only [distE_ok cc va vb, distE_ok cc vb va, distE_ok cc va vw', distE_ok cc vw' vb, distE_ok cc va va] at d1 d2 d3 d4 d5
  have hself : rst (d0 cs) gap a a = 0 := rst_self hga.1 pos (d0_self cs) a
  have hcomm : rst (d0 cs) gap b a = rst (d0 cs) gap a b := rst_comm (d0_comm cs) b a
  have htri := rst_triangle hga.1 pos (d0_tri cs cw0) a w b
  have hp0 := rst_pos hga.1 pos a b
  have hp1' := rst_pos hga.1 pos a w
  have hp2' := rst_pos hga.1 pos w b
  have hle := rst_le (d := d0 cs) (g := gap) a b
  have hle2 := rst_le (d := d0 cs) (g := gap) a w
  have hle3 := rst_le (d := d0 cs) (g := gap) w b
  rw [hself] at d5
  rw [hcomm] at d2
  have lw := vw'.len
  have bnd : ∀ n : Nat, n ≤ 64 → gap * (n : Int) ≤ 1000 * 64 := fun n hn => by
    refine Int.le_trans (Int.mul_le_mul_of_nonneg_right (Int.le_of_lt hga.2) (by omega)) (by omega)
  have b2 := bnd (a.length + w.length) (by omega)
  have b3 := bnd (w.length + b.length) (by omega)
  have b1 := bnd (a.length + b.length) (by omega)
  -- the ratio
  obtain ⟨N, D, hr, r1, r2, r3, r4, r5, r6⟩ : ∃ N D, ratioE cs gap a b = ((N, D), 0) ∧ 1 ≤ D ∧ 0 ≤ N ∧ N ≤ D ∧ rst (d0 cs) gap a b * D = N * (gap * ((a.length : Int) + b.length)) ∧ N ≤ 1000 * 64 ∧ D ≤ 1000 * 64 := by
    unfold ratioE
    rw [← distE_eq, distE_ok cc va vb]
    simp only [ne_eq, not_true_eq_false, if_false]
    rw [Int.natCast_add] at hle b1
    split
    · rename_i h0
      refine ⟨0, 1, rfl, by omega, by omega, by omega, ?_, by omega, by omega⟩
      rw [h0] at hle ⊢
      omega
    · rename_i h0
      have hd : 0 < gap * ((a.length : Int) + b.length) := by
        have : 0 ≤ gap * ((a.length : Int) + b.length) := Int.mul_nonneg hga.1 (by omega)
        omega
      obtain ⟨s1, s2, s3, s4, s5, s6⟩ := lowest_ok hp0 hle hd
      exact ⟨(lowest (rst (d0 cs) gap a b) (gap * ((a.length : Int) + b.length))).1, (lowest (rst (d0 cs) gap a b) (gap * ((a.length : Int) + b.length))).2, rfl, s1, s2, s3, s4, by omega, by omega⟩
  simp only [hr] at d6
  generalize rst (d0 cs) gap a b = ab at *
  generalize rst (d0 cs) gap a w = aw at *
  generalize rst (d0 cs) gap w b = wb at *
  have hrow : ∀ {L : List Nat} {ρ : Env} {blks : List Blk}, Good c L m → WordAt (vw c L ρ blks m) q1 a ∧ WordAt (vw c L ρ blks m) q2 b ∧ WordAt (vw c L ρ blks m) q3 w ∧ CostsAt (vw c L ρ blks m) q4 cs ∧ TabOk (vw c L ρ blks m) := fun g => ⟨hr1.reads g, hr2.reads g, hr3.reads g, hr4.reads g, hp5.mono g.R⟩
  refine .env (by (try simp only [liE, letsOf, letU, snd, List.append_nil]); rfl) (.alloc fun _ => .callV d1 (fun g => let h := hrow g; ⟨h.1, h.2.1, h.2.2.2⟩) (.callV d2 (fun g => let h := hrow g; ⟨h.2.1, h.1, h.2.2.2⟩) (.callV d3 (fun g => let h := hrow g; ⟨h.1, h.2.2.1, h.2.2.2⟩) ?_)))
  refine .env (by (try simp only [liE, letsOf, letU, snd, List.append_nil]); rfl) (.callV d4 (fun g => let h := hrow g; ⟨h.2.2.1, h.2.1, h.2.2.2⟩) (.callV d5 (fun g => let h := hrow g; ⟨h.1, h.1, h.2.2.2⟩) (.callV d6 (fun g => let h := hrow g; ⟨h.1, h.2.1, h.2.2.2⟩) ?_)))
  have e1 : ar .add .i64 aw wb = aw + wb := addI (by omega) (by omega)
  refine .env (by (try simp only [liE, letsOf, letU, snd, List.append_nil]); rfl) (.alloc fun _ => .no (by ((try simp only [evE, liE, letsOf, letU, snd]); (try simp only [cmE])); rw [e1]; simp; omega) (.yes (by ((try simp only [evE, liE, letsOf, letU, snd]); (try simp only [cmE])); omega) (.chk (by ((try simp only [evE, liE, letsOf, letU, snd]); (try simp only [cmE])); omega) (.chk (by ((try simp only [evE, liE, letsOf, letU, snd]); (try simp only [cmE])); omega) (.yes ?_ ?_)))))
  · show (ar .mul .i64 ab D == ar .mul .i64 (ar .mul .i64 N gap) (ar .add .i64 (a.length : Int) (b.length : Int))) = true
    have m1 : 0 ≤ N * gap ∧ N * gap ≤ 64000 * 1000 := ⟨Int.mul_nonneg r2 hga.1, Int.mul_le_mul r5 (Int.le_of_lt hga.2) hga.1 (by omega)⟩
    have m2 : 0 ≤ N * gap * ((a.length : Int) + b.length) ∧ N * gap * ((a.length : Int) + b.length) ≤ 64000 * 1000 * 20 := ⟨Int.mul_nonneg m1.1 (by omega), Int.mul_le_mul m1.2 (by omega) (by omega) (by omega)⟩
    have e2 : ar .add .i64 (a.length : Int) (b.length : Int) = (a.length : Int) + b.length := addI (by omega) (by omega)
    have e3 : ar .mul .i64 N gap = N * gap := mulI (by omega) (by omega)
    rw [e2, e3]
    rw [← Int.mul_assoc] at r4
    have e4 : ar .mul .i64 ab D = ab * D := mulI (by omega) (by omega)
    have e5 : ar .mul .i64 (N * gap) ((a.length : Int) + b.length) = N * gap * ((a.length : Int) + b.length) := mulI (by omega) (by omega)
    rw [e4, e5, r4]; simp
  · exact .callV c_works17 (fun g => hp5.mono g.R) (.ret rfl rfl)
end Go.Proofs.YtedfogpnmpmggaaDoor
