/- EditSubsequences: what the law's code answers. -/
import Derived.Test.YtedfogpnmpmggaaDoorHa
set_option linter.unusedSimpArgs false
set_option linter.unusedVariables false
namespace Go.Sy
open Go Go.RowKit
/-- Rows of different types lie apart. -/
theorem Row.apart {m : Mem} {e e' : TypeId} {s s' : Nat} {q q' : Option Addr} {cap cap' n n' : Nat} {xs xs' : List Value} (h : Row m e s q cap n xs) (h' : Row m e' s' q' cap' n' xs') (he : e ≠ e') (g : Nat) (hg : q = some ⟨g, 0, none⟩) : q' ≠ some ⟨g, 0, none⟩ := fun hg' => by
  rcases h.2 with ⟨h1, _⟩ | ⟨g1, c1, h1, h2, _⟩
  · rw [h1] at hg; cases hg
  · rcases h'.2 with ⟨k1, _⟩ | ⟨g2, c2, k1, k2, _⟩
    · rw [k1] at hg'; cases hg'
    · rw [h1] at hg; cases hg
      rw [k1] at hg'; cases hg'
      rw [h2] at k2
      simp only [Option.some.injEq, Obj.cells.injEq] at k2
      exact he k2.2.1
/-- What another row's append leaves as it was. -/
theorem Row.keepA {m m' : Mem} {e e' : TypeId} {s s' : Nat} {q q' : Option Addr} {cap cap' n n' kx : Nat} {xs xs' : List Value} (h : Row m e s q cap n xs) (h' : Row m e' s' q' cap' n' xs') (he : e ≠ e') (hk : ∀ b, ((∃ o, q' = some ⟨b, o, none⟩) → cap' < n' + kx) → m b ≠ none → m' b = m b) : Row m' e s q cap n xs :=
  h.keep fun g hg hg' => hk g (fun ⟨o, ho⟩ => by
    exfalso
    rcases h'.2 with ⟨k1, _⟩ | ⟨g2, _, k1, _⟩
    · rw [k1] at ho; cases ho
    · rw [k1] at ho; cases ho
      exact h.apart h' he g hg k1) hg'
theorem d0_big {v : Int} (hv : 0 ≤ v) {x y : Snd} (hx : valid x = true) (hy : valid y = true) (hne : x ≠ y) : v ≤ d0 (List.replicate 24 v) x y := by
  have h1 := (valid_iff x).1 hx
  have h2 := (valid_iff y).1 hy
  obtain ⟨i, hi⟩ : ∃ i, ((x.1 ^^^ y.1) ||| (x.2 ^^^ y.2)).testBit i = true := by
    refine Classical.byContradiction fun hn => hne ?_
    have hall : ∀ i, ((x.1 ^^^ y.1) ||| (x.2 ^^^ y.2)).testBit i = false := fun i => by
      cases h : ((x.1 ^^^ y.1) ||| (x.2 ^^^ y.2)).testBit i with
      | false => rfl
      | true => exact absurd ⟨i, h⟩ hn
    refine Snd.ext (fun g => ?_) (fun g => ?_) <;>
    · have := hall g
      simp only [Nat.testBit_or, Nat.testBit_xor, Bool.or_eq_false_iff, bne_eq_false_iff_eq] at this
      first | exact this.1 | exact this.2
  have h24 : i < 24 := by
    rcases Nat.lt_or_ge i 24 with h | h
    · exact h
    · simp [Nat.testBit_or, Nat.testBit_xor, bit_big h1.2.1 h, bit_big h1.2.2 h, bit_big h2.2.1 h, bit_big h2.2.2 h] at hi
  exact sumW_bit _ _ (fun w hw => by rw [List.mem_replicate] at hw; omega) i hi v (by rw [List.getElem?_replicate, if_pos h24])
theorem longE_ok {a b : List Snd} (ha : Vok a) (hb : Vok b) : longE a b = ((lcs a b : Int), 0) := by
  unfold longE
  rw [if_neg]
  have h1 := ha.check
  have h2 := hb.check
  simp [checkL, h1, h2]
end Go.Sy
namespace Go.Proofs.YtedfogpnmpmggaaDoor
open Go Go.Sy Go.RowKit
set_option maxHeartbeats 1000000 in
theorem l_EditSubsequences (px py : Option Addr) (cx cy : Nat) (x y : List (Int × Int)) (g more : Int) (hx : U8ok x) (hy : U8ok y) (hg : (Lit.int .u16 g).wf = true) (hm : (Lit.int .u8 more).wf = true) :
    RetP Tryd.prog n_law17_EditSubsequences [slv px x.length cx, slv py y.length cy, .int .u16 g, .int .u8 more] (fun R => Cells R px (bcells x) ∧ Cells R py (bcells y) ∧ TabOk R) (.bool true) := by
  refine Fn.of S_law17_EditSubsequences mx [.p px, .i x.length, .i cx, .p py, .i y.length, .i cy, .i g, .i more] rfl rfl fun c hp => ?_
  obtain ⟨hp1, hp2, hp5⟩ := hp
  refine .callM (c_mkW px cx x hx) rfl rfl (fun g => hp1.mono g.R) ?_
  rintro v mq1 hf1 ⟨q1, k1, rfl, hr1⟩
  refine ⟨[.p q1, .i (madeW x).length, .i k1], ⟨_, _, _, rfl⟩, (slv_fresh _ _ _ _ _).symm, ?_⟩
  replace hr1 := hr1.joinR (m := Mem.emp) fun b hb => (hf1 b hb).1
  refine .env (by (try simp only [liE, letsOf, letU, snd, List.append_nil]); rfl) (.callM (c_mkW py cy y hy) rfl rfl (fun g => hp2.mono g.R) ?_)
  rintro v mq2 hf2 ⟨q2, k2, rfl, hr2⟩
  refine ⟨[.p q2, .i (madeW y).length, .i k2], ⟨_, _, _, rfl⟩, (slv_fresh _ _ _ _ _).symm, ?_⟩
  replace hr2 := hr2.joinR fun b hb => (hf2 b hb).1
  replace hr1 := hr1.joinL (mq := mq2)
  generalize Mem.join _ mq2 = m at *
  have hgr := u16_rng hg
  have hmr := u8_range hm
  have va := madeW_ok hx
  have vb := madeW_ok hy
  have la : (madeW x).length ≤ 10 := by simp [madeW]; omega
  have lb : (madeW y).length ≤ 10 := by simp [madeW]; omega
  generalize madeW x = a at *
  generalize madeW y = b at *
  have erem : ar .rem .i64 (IntKind.i64.wrap g) 1000 = g % 1000 := by
    rw [wrap_i64 (by omega) (by omega)]
    exact Int.tmod_eq_emod_of_nonneg hgr.1
  have hga : 0 ≤ g % 1000 ∧ g % 1000 < 1000 := by omega
  refine .env (by (try simp only [liE, letsOf, letU, snd, List.append_nil]); rfl) (.alloc fun _ => .loop (fun n us m => ∃ (j : Nat) (q : Option Addr) (cq : Nat), us = [.i j, .p q, .i j, .i cq, .i (g % 1000)] ∧ n + j = 24 ∧ Row m 56 2 q1 k1 a.length (wcells a) ∧ Row m 56 2 q2 k2 b.length (wcells b) ∧ Row m 2 1 q cq j (List.replicate j (.int .i64 (2 * (g % 1000) + more)))) 24
    ⟨0, none, 0, by (simp only [evE, liE, letsOf, letU, snd, Sh.uss, Sh.us, atAddr, map_add0, List.append_nil]); rw [erem]; rfl, rfl, hr1, hr2, Row.nil _ _ _⟩ ?_)
  clear hr1 hr2
  generalize g % 1000 = gap at *
  rintro n _ m _ ⟨j, q, cq, rfl, hn, hr1, hr2, hrow⟩
  refine .ite (fun h1 => ?_) (fun h1 => ?_) <;> ((try simp only [evE, liE, letsOf, letU, snd] at h1); (try simp only [cmE] at h1))
  · have e1 : ar .mul .i64 2 gap = 2 * gap := mulI (by omega) (by omega)
    have e2 : ar .add .i64 (ar .mul .i64 2 gap) (IntKind.i64.wrap more) = 2 * gap + more := by rw [e1, wrap_i64 (by omega) (by omega), addI (by omega) (by omega)]
    refine .alloc fun b1 => .append (q := q) (cap := cq) (n := j) (qx := some ⟨b1, 0, none⟩) (kx := 1) (capx := 1) (news := [.int .i64 (2 * gap + more)]) el23 hrow (fun g => g.cells (j := 1) rfl rfl (by rw [← e2]; rfl)) (by simp) (by simp [Value.oneCell']) (fun h => by cases h) (by simp [maxLen]; omega) (by omega) (fun q' cq' m' hr' hk' _ => ?_)
    refine .again rfl ⟨n - 1, by omega, j + 1, q', cq', ?_, by omega, hr1.keepA hrow (by decide) hk', hr2.keepA hrow (by decide) hk', by rw [List.replicate_succ']; exact hr'⟩
    (simp only [evE, liE, letsOf, letU, snd, Sh.uss, Sh.us, atAddr, map_add0, List.append_nil]); rw [add_i64 j (by omega)]
  · have hj : j = 24 := by omega
    subst hj
    have hc : checkC (List.replicate 24 (2 * gap + more)) gap = 0 := by
      unfold checkC
      rw [if_neg]
      simp only [not_or, List.any_eq_true, not_exists, not_and, List.length_replicate]
      refine ⟨by omega, by omega, by omega, fun w hw => ?_⟩
      rw [List.mem_replicate] at hw
      simp [badW]; omega
    have hcs : ∀ w ∈ List.replicate 24 (2 * gap + more), 0 ≤ w := fun w hw => by rw [List.mem_replicate] at hw; omega
    have d1 := c_editDist ⟨q1, k1, a⟩ ⟨q2, k2, b⟩ q cq (List.replicate 24 (2 * gap + more)) gap va.wok vb.wok
    have d2 := c_longest q1 q2 k1 k2 a b va.wok vb.wok
    have d3 := c_longest q2 q1 k2 k1 b a vb.wok va.wok
    simp only [distE_ok hc va vb] at d1
    rw [longE_ok va vb] at d2
    rw [longE_ok vb va, lcs_comm b a] at d3
    have key := rst_lcs (d := d0 (List.replicate 24 (2 * gap + more))) hga.1 (fun x y => sumW_nonneg _ _ hcs) (d0_self _) (d0_tri _ hcs) a b (fun x hx y hy hne => Int.le_trans (by omega) (d0_big (v := 2 * gap + more) (by omega) (va.val x hx) (vb.val y hy) hne))
    have hl := lcs_le a b
    have hread : ∀ {L : List Nat} {ρ : Env} {blks : List Blk}, Good c L m → WordAt (vw c L ρ blks m) q1 a ∧ WordAt (vw c L ρ blks m) q2 b ∧ CostsAt (vw c L ρ blks m) q (List.replicate 24 (2 * gap + more)) ∧ TabOk (vw c L ρ blks m) := fun g =>
      have h := hrow.reads g
      ⟨hr1.reads g, hr2.reads g, by unfold CostsAt; rw [List.map_replicate]; exact h, hp5.mono g.R⟩
    rw [show ((24 : Nat) : Int) = ((List.replicate 24 (2 * gap + more)).length : Int) by simp]
    refine .callV d1 hread (.callV d2 (fun g => let h := hread g; ⟨h.1, h.2.1⟩) (.callV d3 (fun g => let h := hread g; ⟨h.2.1, h.1⟩) ?_))
    refine .env (by (try simp only [liE, letsOf, letU, snd, List.append_nil]); rfl) (.no (by ((try simp only [evE, liE, letsOf, letU, snd]); (try simp only [cmE])); simp) (.chk (by ((try simp only [evE, liE, letsOf, letU, snd]); (try simp only [cmE])); omega) (.chk (by ((try simp only [evE, liE, letsOf, letU, snd]); (try simp only [cmE])); omega) (.no ?_ (.chk (by ((try simp only [evE, liE, letsOf, letU, snd]); (try simp only [cmE])); omega) (.chk (by ((try simp only [evE, liE, letsOf, letU, snd]); (try simp only [cmE])); omega) (.yes ?_ ?_)))))))
    · ((try simp only [evE, liE, letsOf, letU, snd]); (try simp only [cmE]))
      refine ⟨?_, by omega⟩
      show (lcs a b : Int) ≤ if (b.length : Int) < a.length then (b.length : Int) else a.length
      split <;> omega
    · have e1 : ar .add .i64 (a.length : Int) (b.length : Int) = (a.length : Int) + b.length := addI (by omega) (by omega)
      have e2 : ar .mul .i64 2 (lcs a b : Int) = 2 * (lcs a b : Int) := mulI (by omega) (by omega)
      have e3 : ar .sub .i64 ((a.length : Int) + b.length) (2 * (lcs a b : Int)) = (a.length : Int) + b.length - 2 * (lcs a b : Int) := subI (by omega) (by omega)
      have hb1 : gap * ((a.length : Int) + b.length - 2 * (lcs a b : Int)) ≤ 1000 * 64 := Int.le_trans (Int.mul_le_mul_of_nonneg_right (Int.le_of_lt hga.2) (by omega)) (by omega)
      have hb0 : 0 ≤ gap * ((a.length : Int) + b.length - 2 * (lcs a b : Int)) := Int.mul_nonneg hga.1 (by omega)
      show (rst (d0 (List.replicate 24 (2 * gap + more))) gap a b == ar .mul .i64 gap (ar .sub .i64 (ar .add .i64 (a.length : Int) (b.length : Int)) (ar .mul .i64 2 (lcs a b : Int)))) = true
      rw [e1, e2, e3, mulI (by omega) (by omega), beq_iff_eq, Int.mul_sub, Int.mul_add, Int.mul_left_comm gap 2]
      omega
    · exact .callV c_works17 (fun g => hp5.mono g.R) (.ret rfl rfl)
end Go.Proofs.YtedfogpnmpmggaaDoor
