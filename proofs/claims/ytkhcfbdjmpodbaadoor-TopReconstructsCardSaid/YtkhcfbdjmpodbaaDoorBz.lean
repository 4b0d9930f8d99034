/- Chapter 18: the ways to go on. -/
import Derived.Test.YtkhcfbdjmpodbaaDoorBy
import Derived.Lib.Mul64
set_option linter.unusedSimpArgs false
set_option linter.unusedVariables false
/- Chapter 18: the ways to go on. -/
namespace Go.Proofs.YtkhcfbdjmpodbaaDoor
open Go Go.Sy Go.RowKit
theorem c_steps1 (r : IR) (hr : r.ok) (k : Nat) (x : Int) (hne : r.l ≠ []) (hk : k ≤ r.l.length) (hsm : r.l.length < 2 ^ 30) :
    FnM Tryd.prog n_multi_steps_1 [r.v, .int .i64 (k : Int), .int .i64 x] (fun R => Cells R r.p (intsL r.l)) fun v mq _ => ∃ q cq, v = slv q (r.l.length + 1) cq ∧ Row mq 3 1 q cq (r.l.length + 1) (intsL (insS r.l k x)) := by
  refine FnM.of S_multi_steps_1 mx [.p r.p, .i r.l.length, .i r.cap, .i k, .i x] rfl rfl fun c hp => .callM (c_cloneI r.p r.cap r.l hr.le hr.nil hr.small) rfl rfl (fun g => hp.mono g.R) ?_
  rintro v mq hfr ⟨q1, c1, rfl, hr1⟩
  have hR1 := hr1.row hne
  rcases hR1.2 with ⟨_, h, _⟩ | ⟨g, cur, rfl, hg, g1, g2, g3, g4⟩
  · exact absurd (List.length_eq_zero_iff.1 h) hne
  rw [Nat.mul_one] at g3 g4
  have hjg : (Mem.emp.join mq) g = some (.cells cur 3 (0, 0)) := by rw [join_new rfl, hg]
  generalize Mem.emp.join mq = m1 at hjg
  refine ⟨[.p (some ⟨g, 0, none⟩), .i (r.l.length : Nat), .i (c1 : Nat)], uOk_of rfl, (slv_fresh _ _ _ _ _).symm, .env (by (try simp only [liE, lO, lU, snd, aN]); rfl) (.alloc' fun b0 hb0 hb0m hb0o => ?_)⟩
  have hbg : b0 ≠ g := fun e => by rw [e, hjg] at hb0m; cases hb0m
  have hmo : ((m1.one g).upd b0 (.cells #[.int .i64 x] 3 (0, 0))) g = some (.cells cur 3 (0, 0)) := by rw [Mem.upd_other _ _ (Ne.symm hbg), Mem.one_same]; exact hjg
  refine .callOB (mo := m1.one g) 0 b0 ⟨[.int .i64 (.var 4)], 3⟩ rfl rfl (c_Insert ((m1.one g).upd b0 (.cells #[.int .i64 x] 3 (0, 0))) g c1 b0 cur r.l k x hk g1 g2 hsm g3 g4 hmo (Mem.upd_same ..) hbg) ?_ rfl rfl (fun b o hb => Mem.one_sub hb) ?_
  · rintro v mq2 ⟨g', cq', _, _, h, _⟩
    exact (h b0 hbg (by rw [Mem.upd_same]; simp)).trans (Mem.upd_same ..)
  · rintro v mq2 hfr2 ⟨g', cq', rfl, hR2, hk2, hg'⟩
    refine ⟨[.p (some ⟨g', 0, none⟩), .i (r.l.length + 1 : Nat), .i (cq' : Nat)], uOk_of rfl, (slv_fresh _ _ _ _ _).symm, .env (by (try simp only [liE, lO, lU, snd, aN]); rfl) (.ret rfl ⟨some ⟨g', 0, none⟩, cq', rfl, hR2.keep fun g2 hg2 hne2 => ?_⟩)⟩
    cases hg2
    have hb' : g' ≠ b0 := by
      rcases hg' with rfl | h
      · exact Ne.symm hbg
      · intro e; rw [e, Mem.upd_same] at h; cases h
    have hdel : (mq2.del b0) g' = mq2 g' := Mem.del_other _ hb'
    rw [← hdel]
    refine minus_join ?_
    rcases hfr2 g' hne2 hb' with h | h
    · exact .inl h
    · exact .inr h.1
theorem c_steps2 (r : IR) (hr : r.ok) (k : Nat) (x : Int) (hne : r.l ≠ []) (hk : k ≤ r.l.length) (hsm : r.l.length < 2 ^ 30) :
    FnM Tryd.prog n_multi_steps_2 [r.v, .int .i64 (k : Int), .int .i64 x] (fun R => Cells R r.p (intsL r.l)) fun v mq _ => ∃ q cq, v = slv q (r.l.length + 1) cq ∧ Row mq 3 1 q cq (r.l.length + 1) (intsL (insS r.l k (-1))) := by
  refine FnM.of S_multi_steps_2 mx [.p r.p, .i r.l.length, .i r.cap, .i k, .i x] rfl rfl fun c hp => .callM (c_cloneI r.p r.cap r.l hr.le hr.nil hr.small) rfl rfl (fun g => hp.mono g.R) ?_
  rintro v mq hfr ⟨q1, c1, rfl, hr1⟩
  have hR1 := hr1.row hne
  rcases hR1.2 with ⟨_, h, _⟩ | ⟨g, cur, rfl, hg, g1, g2, g3, g4⟩
  · exact absurd (List.length_eq_zero_iff.1 h) hne
  rw [Nat.mul_one] at g3 g4
  have hjg : (Mem.emp.join mq) g = some (.cells cur 3 (0, 0)) := by rw [join_new rfl, hg]
  generalize Mem.emp.join mq = m1 at hjg
  refine ⟨[.p (some ⟨g, 0, none⟩), .i (r.l.length : Nat), .i (c1 : Nat)], uOk_of rfl, (slv_fresh _ _ _ _ _).symm, .env (by (try simp only [liE, lO, lU, snd, aN]); rfl) (.alloc' fun b0 hb0 hb0m hb0o => ?_)⟩
  have hbg : b0 ≠ g := fun e => by rw [e, hjg] at hb0m; cases hb0m
  have hmo : ((m1.one g).upd b0 (.cells #[.int .i64 (-1)] 3 (0, 0))) g = some (.cells cur 3 (0, 0)) := by rw [Mem.upd_other _ _ (Ne.symm hbg), Mem.one_same]; exact hjg
  refine .callOB (mo := m1.one g) 0 b0 ⟨[.int .i64 (.lit (-1))], 3⟩ rfl rfl (c_Insert ((m1.one g).upd b0 (.cells #[.int .i64 (-1)] 3 (0, 0))) g c1 b0 cur r.l k (-1) hk g1 g2 hsm g3 g4 hmo (Mem.upd_same ..) hbg) ?_ rfl rfl (fun b o hb => Mem.one_sub hb) ?_
  · rintro v mq2 ⟨g', cq', _, _, h, _⟩
    exact (h b0 hbg (by rw [Mem.upd_same]; simp)).trans (Mem.upd_same ..)
  · rintro v mq2 hfr2 ⟨g', cq', rfl, hR2, hk2, hg'⟩
    refine ⟨[.p (some ⟨g', 0, none⟩), .i (r.l.length + 1 : Nat), .i (cq' : Nat)], uOk_of rfl, (slv_fresh _ _ _ _ _).symm, .env (by (try simp only [liE, lO, lU, snd, aN]); rfl) (.ret rfl ⟨some ⟨g', 0, none⟩, cq', rfl, hR2.keep fun g2 hg2 hne2 => ?_⟩)⟩
    cases hg2
    have hb' : g' ≠ b0 := by
      rcases hg' with rfl | h
      · exact Ne.symm hbg
      · intro e; rw [e, Mem.upd_same] at h; cases h
    have hdel : (mq2.del b0) g' = mq2 g' := Mem.del_other _ hb'
    rw [← hdel]
    refine minus_join ?_
    rcases hfr2 g' hne2 hb' with h | h
    · exact .inl h
    · exact .inr h.1
end Go.Proofs.YtkhcfbdjmpodbaaDoor
/- Chapter 18: the third way to go on. -/
namespace Go.Sy
open Go Go.RowKit
theorem u64_wrap {n : Nat} (h : n < 2 ^ 64) : IntKind.u64.wrap (n : Int) = n := by
  unfold IntKind.wrap
  simp [IntKind.signed, IntKind.bits]
  omega
theorem ar_shr32 (a : Nat) : ar .shr .u64 (a : Int) 32 = ((a / 4294967296 : Nat) : Int) := by
  show Int.fdiv (a : Int) (2 ^ (min (32 : Int).toNat IntKind.u64.bits)) = _
  rw [show min (32 : Int).toNat IntKind.u64.bits = 32 from rfl, Int.fdiv_eq_ediv_of_nonneg _ (Int.pow_nonneg (by decide))]
  norm_cast
theorem ar_low32 (a : Nat) (ha : a < 2 ^ 64) : ar .and .u64 (a : Int) 4294967295 = ((a % 4294967296 : Nat) : Int) := by
  show IntKind.u64.wrap ((BitVec.ofInt 64 (a : Int) &&& BitVec.ofInt 64 ((4294967295 : Nat) : Int)).toNat : Int) = _
  have : (BitVec.ofInt 64 (a : Int) &&& BitVec.ofInt 64 ((4294967295 : Nat) : Int)).toNat = a % 4294967296 := by
    rw [BitVec.ofInt_natCast, BitVec.ofInt_natCast, BitVec.toNat_and, BitVec.toNat_ofNat, BitVec.toNat_ofNat, Nat.mod_eq_of_lt ha, Nat.mod_eq_of_lt (by decide), show (4294967295 : Nat) = 2 ^ 32 - 1 by decide, Nat.and_two_pow_sub_one_eq_mod]
  rw [this, u64_wrap (by omega)]
theorem mulU {a b : Nat} (h : a * b < 2 ^ 64) : ar .mul .u64 (a : Int) (b : Int) = ((a * b : Nat) : Int) := by
  show IntKind.u64.wrap _ = _
  rw [show (a : Int) * (b : Int) = ((a * b : Nat) : Int) by norm_cast, u64_wrap h]
theorem addU {a b : Nat} (h : a + b < 2 ^ 64) : ar .add .u64 (a : Int) (b : Int) = ((a + b : Nat) : Int) := by
  show IntKind.u64.wrap _ = _
  rw [show (a : Int) + (b : Int) = ((a + b : Nat) : Int) by norm_cast, u64_wrap h]
theorem mulU_mod (a b : Nat) : ar .mul .u64 (a : Int) (b : Int) = ((a * b % 2 ^ 64 : Nat) : Int) := by
  show IntKind.u64.wrap _ = _
  rw [show (a : Int) * (b : Int) = ((a * b : Nat) : Int) by norm_cast]
  unfold IntKind.wrap
  simp [IntKind.signed, IntKind.bits]
def repT (t : TypeId) (mul : FuncId) (sz : Nat) (e : TypeId) (bytes : Nat) (o3 o4 o5 o6 : Operand) (w1 w2 : String) : Tree :=
 (.ite (.cmp .lss (.var 3) (.lit 0))
  (.bad w1)
  (.chk (.cmp .geq (.var 1) (.lit 0))
  (.call false mul [(.int .u64 (.conv .u64 (.var 1))), (.int .u64 (.conv .u64 (.var 3)))] (.tup [(.int .u64), (.int .u64)]) []
  (.ite (.pick (.cmp .gtr (.var 4) (.lit 0)) (.lit true) (.cmp .gtr (.var 5) (.lit 9223372036854775807)))
   (.bad w2)
   (.makev e bytes (.conv .i64 (.var 5)) (.conv .i64 (.var 5))
   (.ext false ⟨(.call ⟨.builtin .copy, #[o3, o4], #[t, t]⟩), 3, [(.sl 6 (.lit 0) (.var 7) (.var 8)), (.sl 0 (.lit 0) (.var 1) (.var 2))]⟩ (.int .i64) []
   (.loop 0 [(.int .i64)] [(.int .i64 (.var 9))] [] []
    (.chk (.cmp .geq (.var 7) (.lit 0))
    (.ite (.cmp .lss (.var 10) (.var 7))
     (.chk (.pick (.cmp .leq (.lit 0) (.var 10)) (.pick (.cmp .leq (.var 10) (.var 7)) (.cmp .leq (.var 7) (.var 8)) (.lit false)) (.lit false))
     (.chk (.pick (.cmp .leq (.lit 0) (.var 10)) (.cmp .leq (.var 10) (.var 8)) (.lit false))
     (.ext false ⟨(.call ⟨.builtin .copy, #[o5, o6], #[t, t]⟩), 3, [(.sl 6 (.ifeq (.var 8) (.var 10) (.lit 0) (.off (.var 10) sz (.lit 0))) (.dif (.var 7) (.var 10)) (.dif (.var 8) (.var 10))), (.sl 6 (.ifeq (.var 8) (.lit 0) (.lit 0) (.lit 0)) (.var 10) (.var 8))]⟩ (.int .i64) []
     (.again 0 0 [(.int .i64)] [(.int .i64 (.bin .add .i64 (.var 10) (.var 11)))] []))))
     (.ret (.sl 6 (.lit 0) (.var 7) (.var 8)) []))))))))))
theorem rep_next {xs R cs : List Value} {j n L : Nat} (hL : xs.length = L) (hL0 : 0 < L) (hR : R.length = n) (hjn : j < n) (hdiv : L ∣ j) (h0 : 0 < j) (hpre : ∀ t, t < j → R[t]? = xs[t % L]?) (hcs : cs = R.take (min j (n - j))) :
    (R.take j ++ cs ++ R.drop (j + cs.length)).length = n ∧ ∀ t, t < j + min j (n - j) → (R.take j ++ cs ++ R.drop (j + cs.length))[t]? = xs[t % L]? := by
  have hcl : cs.length = min j (n - j) := by rw [hcs, List.length_take]; omega
  refine ⟨by simp only [List.length_append, List.length_take, List.length_drop, hcl]; omega, fun t ht => ?_⟩
  rw [List.append_assoc]
  rcases Nat.lt_or_ge t j with h | h
  · rw [List.getElem?_append_left (by rw [List.length_take]; omega), List.getElem?_take_of_lt h]
    exact hpre t h
  · rw [List.getElem?_append_right (by rw [List.length_take]; omega), List.length_take, Nat.min_eq_left (by omega), List.getElem?_append_left (by omega), hcs, List.getElem?_take_of_lt (by omega), hpre _ (by omega)]
    obtain ⟨q, rfl⟩ := hdiv
    rw [show t = (t - L * q) + L * q by omega, Nat.add_mul_mod_self_left]
    congr 1
    rw [Nat.add_sub_cancel]
def newS (n k : Nat) (x : Int) : List Int := (List.replicate n (-1)).set k x
end Go.Sy
namespace Go.Proofs.YtkhcfbdjmpodbaaDoor
open Go Go.Sy Go.RowKit
theorem c_mul64 (x y : Nat) (hx : x < 2 ^ 64) (hy : y < 2 ^ 64) : Ret Tryd.prog n_math_bits_Mul64 [.int .u64 x, .int .u64 y] (.tuple #[.int .u64 (x * y / 2 ^ 64 : Nat), .int .u64 (x * y % 2 ^ 64 : Nat)]) := by
  refine Fn.of S_math_bits_Mul64 mx [.i x, .i y] rfl rfl fun c _ => .ret rfl ?_
  obtain ⟨q1, q2, q3, q4⟩ := Go.Lib.mul64_hi x y hx hy
  have u1 := Go.Lib.half_mul_le (a := x / 4294967296) (b := y / 4294967296) (by omega) (by omega)
  have u2 := Go.Lib.half_mul_le (a := x / 4294967296) (b := y % 4294967296) (by omega) (by omega)
  have u3 := Go.Lib.half_mul_le (a := x % 4294967296) (b := y / 4294967296) (by omega) (by omega)
  have hq : x * y / 18446744073709551616 < 18446744073709551616 := by
    have : x * y < 18446744073709551616 * 18446744073709551616 := Nat.mul_lt_mul_of_lt_of_lt hx hy
    exact Nat.div_lt_of_lt_mul this
  show Value.tuple #[.int .u64 (ar .add .u64 (ar .add .u64 (ar .mul .u64 (ar .shr .u64 (x : Int) 32) (ar .shr .u64 (y : Int) 32)) (ar .shr .u64 (ar .add .u64 (ar .mul .u64 (ar .shr .u64 (x : Int) 32) (ar .and .u64 (y : Int) 4294967295)) (ar .shr .u64 (ar .mul .u64 (ar .and .u64 (x : Int) 4294967295) (ar .and .u64 (y : Int) 4294967295)) 32)) 32)) (ar .shr .u64 (ar .add .u64 (ar .and .u64 (ar .add .u64 (ar .mul .u64 (ar .shr .u64 (x : Int) 32) (ar .and .u64 (y : Int) 4294967295)) (ar .shr .u64 (ar .mul .u64 (ar .and .u64 (x : Int) 4294967295) (ar .and .u64 (y : Int) 4294967295)) 32)) 4294967295) (ar .mul .u64 (ar .and .u64 (x : Int) 4294967295) (ar .shr .u64 (y : Int) 32))) 32)), .int .u64 (ar .mul .u64 (x : Int) (y : Int))] = _
  rw [ar_shr32, ar_shr32, ar_low32 x hx, ar_low32 y hy, mulU (by omega), mulU (by omega), mulU q1, mulU (by omega), ar_shr32, addU q2, ar_shr32, ar_low32 _ q2, addU q3, ar_shr32, addU (by omega), addU (by omega), q4, mulU_mod]
theorem c_mulW (x y : Nat) (hx : x < 2 ^ 64) (hy : y < 2 ^ 64) : Ret Tryd.prog n_math_bits_Mul [.int .u64 x, .int .u64 y] (.tuple #[.int .u64 (x * y / 2 ^ 64 : Nat), .int .u64 (x * y % 2 ^ 64 : Nat)]) := by
  refine Fn.of S_math_bits_Mul mx [.i x, .i y] rfl rfl fun c _ => .callV (c_mul64 x y hx hy) (fun _ => trivial) (.ret rfl rfl)
theorem repeat_of {f : FuncId} {t e : TypeId} {sz bytes bytesE : Nat} {o3 o4 o5 o6 : Operand} {w1 w2 : String} (S : FnIs Tryd.prog f [.sl, .int .i64] (repT t n_math_bits_Mul sz e bytesE o3 o4 o5 o6 w1 w2)) (hE : El Tryd.prog t e sz bytes)
    (p : Option Addr) (cp k n : Nat) (xs : List Value) (hp0 : p ≠ none) (hk : 0 < k) (hn : 0 < n) (hkn : k * n ≤ 65536) (hx : xs.length = k * sz) (h1 : ∀ v ∈ xs, v.oneCell' = true)
    (mk : ∀ {c : Cx} {L : List Nat} {ρ : Env} {m : Mem} {R : Value → HW → Prop} {Dn : Nat → List U → HW → Prop} {A : List (List U → HW → Prop)} {l d : IT} {kt : Tree} (N : Nat), N ≤ 65536 → (∀ g cur, m g = none → cur.size = N * sz → DenM Tryd.prog R Dn kt L (ρ ++ [.p (some ⟨g, 0, none⟩), .i N, .i N]) c (m.upd g (.cells cur e (0, 0))) A) →
      Value.int .i64 (l.eval ρ) = .int .i64 N → Value.int .i64 (d.eval ρ) = .int .i64 N → DenM Tryd.prog R Dn (.makev e bytesE l d kt) L ρ c m A) :
    FnM Tryd.prog f [slv p k cp, .int .i64 n] (fun R => Cells R p xs) fun v mq _ => ∃ g ys, v = slv (some ⟨g, 0, none⟩) (k * n) (k * n) ∧ Row mq e sz (some ⟨g, 0, none⟩) (k * n) (k * n) ys ∧ ys.length = k * n * sz ∧ ∀ u, u < k * n * sz → ys[u]? = xs[u % (k * sz)]? := by
  have hsz := hE.pos
  have hk64 : k < 65537 := by
    have : k * 1 ≤ k * n := Nat.mul_le_mul_left _ hn
    omega
  have hn64 : n < 65537 := by
    have : 1 * n ≤ k * n := Nat.mul_le_mul_right _ hk
    omega
  have ek : IntKind.u64.wrap (k : Int) = (k : Nat) := u64_wrap (by omega)
  have en : IntKind.u64.wrap (n : Int) = (n : Nat) := u64_wrap (by omega)
  have elo : k * n % 2 ^ 64 = k * n := Nat.mod_eq_of_lt (by omega)
  have ehi : k * n / 2 ^ 64 = 0 := Nat.div_eq_of_lt (by omega)
  have kM := c_mulW k n (by omega) (by omega)
  rw [elo, ehi] at kM
  have hkT : k ≤ k * n := Nat.le_mul_of_pos_right k hn
  generalize k * n = T at *
  obtain ⟨pa, hpa⟩ : ∃ a, p = some a := by cases p with | none => exact absurd rfl hp0 | some a => exact ⟨a, rfl⟩
  subst hpa
  refine FnM.of S mx [.p (some pa), .i k, .i cp, .i n] rfl rfl fun c hp => ?_
  unfold repT
  refine .no (by ((try simp only [evE, liE, lO, lU, snd]); (try simp only [cmE])); omega) (.chk (by ((try simp only [evE, liE, lO, lU, snd]); (try simp only [cmE])); omega) (.callV kM (fun _ => trivial) (.env (by (try simp only [liE, lO, lU, snd, aN]); rfl) (.no ?_ (mk (T) hkn (fun g cur hg hcur => ?_) ?_ ?_))) (hargs := by show [Value.int .u64 (IntKind.u64.wrap (k : Int)), .int .u64 (IntKind.u64.wrap (n : Int))] = _; rw [ek, en])))
  · show (bif decide (((0 : Nat) : Int) > 0) then true else decide (((T : Nat) : Int) > 9223372036854775807)) = false
    rw [decide_eq_false (by omega)]
    exact decide_eq_false (by omega)
  · have hkk : Nat.min k (T) = k := Nat.min_eq_left (hkT)
    refine .env (by (try simp only [liE, lO, lU, snd, aN]); rfl) (.copyR (g := g) (o := 0) (dn := T) (dc := T) (sn := k) (sc := cp) (a := pa) (cs := xs) hE (Mem.upd_same ..) (fun gd => hp.mono gd.R) (by rw [hkk]; exact hx) (by rw [hcur, hx, Nat.zero_add]; exact Nat.mul_le_mul_right _ (hkT)) h1 ?_ ?_ ?_)
    · rw [hkk]
      refine .env (by (try simp only [liE, lO, lU, snd, aN]); rfl) ?_
      have hxk : xs.length ≤ cur.size := by rw [hcur, hx]; exact Nat.mul_le_mul_right _ hkT
      refine .loop (fun q us m => ∃ (j : Nat) (ys : List Value), us = [.i j] ∧ q = T - j ∧ j ≤ T ∧ (j = T ∨ k ∣ j) ∧ 0 < j ∧ m g = some (.cells ys.toArray e (0, 0)) ∧ ys.length = T * sz ∧ (∀ v ∈ ys, v.oneCell' = true ∨ True) ∧ ∀ u, u < j * sz → ys[u]? = xs[u % (k * sz)]?) (T - k) ⟨k, cur.toList.take 0 ++ xs ++ cur.toList.drop (0 + xs.length), rfl, rfl, hkT, .inr (Nat.dvd_refl k), hk, Mem.upd_same .., ?_, fun _ _ => .inr trivial, fun u hu => ?_⟩ ?_
      · have e : cur.toList.length = cur.size := by simp
        rw [List.take_zero, List.nil_append, Nat.zero_add, List.length_append, List.length_drop, e, ← hcur]; omega
      · rw [List.take_zero, List.nil_append, List.getElem?_append_left (by omega), Nat.mod_eq_of_lt (by omega)]
      rintro q us m' _ ⟨j, ys, rfl, rfl, hj, hdv, hj0, hm', hyl, _, hpre⟩
      refine .env (by (try simp only [liE, lO, lU, snd, aN]); rfl) (.chk (by ((try simp only [evE, liE, lO, lU, snd]); (try simp only [cmE])); omega) (.ite (fun h2 => ?_) (fun h2 => .ret (v := slv (some ⟨g, 0, none⟩) (T) (T)) ?_ ?_))) <;> ((try simp only [evE, liE, lO, lU, snd] at h2); (try simp only [cmE] at h2))
      · have hj : j < T := by
          have h2 : (j : Int) < ((T : Nat) : Int) := h2
          omega
        have hkj : k ∣ j := hdv.resolve_left (by omega)
        have hmin : min j (T - j) * sz = min (j * sz) (T * sz - j * sz) := by
          rw [← Nat.sub_mul]
          rcases Nat.le_total j (T - j) with h | h
          · rw [Nat.min_eq_left h, Nat.min_eq_left (Nat.mul_le_mul_right _ h)]
          · rw [Nat.min_eq_right h, Nat.min_eq_right (Nat.mul_le_mul_right _ h)]
        have hjs : j * sz < T * sz := Nat.mul_lt_mul_of_pos_right hj hsz
        have hLj : k * sz ∣ j * sz := Nat.mul_dvd_mul_right hkj sz
        have hj0s : 0 < j * sz := Nat.mul_pos hj0 hsz
        obtain ⟨hn1, hn2⟩ := rep_next (xs := xs) (R := ys) (cs := ys.take (min (j * sz) (T * sz - j * sz))) (j := j * sz) (n := T * sz) (L := k * sz) hx (Nat.mul_pos hk hsz) hyl hjs hLj hj0s hpre rfl
        have hcl : (ys.take (min (j * sz) (T * sz - j * sz))).length = min j (T - j) * sz := by rw [List.length_take, hmin]; omega
        refine .chk (by ((try simp only [evE, liE, lO, lU, snd]); (try simp only [cmE])); simp; omega) (.chk (by ((try simp only [evE, liE, lO, lU, snd]); (try simp only [cmE])); simp; omega) (.copyR (g := g) (o := j * sz) (dn := T - j) (dc := T - j) (sn := j) (sc := T) (a := ⟨g, 0, none⟩) (cs := ys.take (min (j * sz) (T * sz - j * sz))) hE hm' (fun gd => ?_) hcl ?_ (fun v hv => ?_) (.env (by (try simp only [liE, lO, lU, snd, aN]); rfl) (.again rfl ⟨T - (j + min j (T - j)), by omega, j + min j (T - j), ys.take (j * sz) ++ ys.take (min (j * sz) (T * sz - j * sz)) ++ ys.drop (j * sz + (ys.take (min (j * sz) (T * sz - j * sz))).length), ?_, rfl, by omega, ?_, by omega, Mem.upd_same .., hn1, fun _ _ => .inr trivial, fun u hu => hn2 u ?_⟩)) ?_ ?_))
        · have : ∀ {ρ : Env} {bl : List Blk}, Cells (vw c [] ρ bl m') (some ⟨g, 0, none⟩) ys := fun {ρ bl} i v hv => ⟨g, 0, rfl, by rw [vw_mem gd hm', Nat.zero_add]; simpa using hv⟩
          intro i v hv
          exact this i v (by
            rw [List.getElem?_take] at hv
            split at hv
            · exact hv
            · cases hv)
        · rw [hcl, List.size_toArray, hyl, ← Nat.add_mul]; exact Nat.mul_le_mul_right _ (by omega)
        · obtain ⟨i, hi, rfl⟩ := List.mem_iff_getElem.1 hv
          have hi' : i < j * sz := by rw [List.length_take] at hi; omega
          have := hpre i hi'
          rw [List.getElem_take]
          rw [List.getElem?_eq_getElem (by omega)] at this
          exact h1 _ (List.mem_of_getElem? this.symm)
        · (simp only [evE, liE, lO, lU, snd, Sh.uss, Sh.us, atAddr, map_add0, List.append_nil]); rw [show ((Nat.min j (T - j) : Nat) : Int) = ((min j (T - j) : Nat) : Int) from rfl, show ar .add .i64 (j : Int) ((min j (T - j) : Nat) : Int) = ((j + min j (T - j) : Nat) : Int) by rw [show ar .add .i64 (j : Int) ((min j (T - j) : Nat) : Int) = (j : Int) + ((min j (T - j) : Nat) : Int) from wrap_i64 (by omega) (by omega)]; omega]
        · rcases Nat.le_total j (T - j) with h | h
          · rw [Nat.min_eq_left h]
            exact .inr (Nat.dvd_add hkj hkj)
          · rw [Nat.min_eq_right h]
            left; omega
        · rw [← hmin, ← Nat.add_mul]; exact hu
        · show Value.slice ((some (⟨g, 0, none⟩ : Addr)).map fun a => a.add (if ((T : Nat) : Int) = (j : Int) then (0 : Int) else (0 : Int) + (j : Int) * ((sz : Nat) : Int)).toNat) (((T : Nat) : Int) - (j : Int)).toNat (((T : Nat) : Int) - (j : Int)).toNat = _
          rw [if_neg (by omega), show ((0 : Int) + (j : Int) * ((sz : Nat) : Int)).toNat = j * sz by rw [Int.zero_add, ← Int.natCast_mul]; rfl, show (((T : Nat) : Int) - (j : Int)).toNat = T - j by omega]
          simp [addr_add]
        · show Value.slice ((some (⟨g, 0, none⟩ : Addr)).map fun a => a.add (if ((T : Nat) : Int) = (0 : Int) then (0 : Int) else (0 : Int)).toNat) ((j : Int)).toNat (((T : Nat) : Int)).toNat = _
          rw [if_neg (by omega)]; simp [addr_zero]
      · show Value.slice ((some (⟨g, 0, none⟩ : Addr)).map fun a => a.add (0 : Int).toNat) (((T : Nat) : Int)).toNat (((T : Nat) : Int)).toNat = _
        simp [slv, addr_zero]
      · have hje : j = T := by
          have h2 : ((T : Nat) : Int) ≤ (j : Int) := h2
          omega
        subst hje
        exact ⟨g, ys, rfl, ⟨hyl, .inr ⟨g, ys.toArray, rfl, hm', Nat.le_refl _, by unfold maxLen; omega, by rw [List.size_toArray]; exact hyl, by rw [List.toList_toArray, ← hyl, List.take_length]⟩⟩, hyl, hpre⟩
    · show Value.slice ((some (⟨g, 0, none⟩ : Addr)).map fun a => a.add (0 : Int).toNat) (((T : Nat) : Int)).toNat (((T : Nat) : Int)).toNat = _
      simp [addr_zero]
    · show Value.slice ((some pa).map fun a => a.add (0 : Int).toNat) ((k : Int)).toNat ((cp : Int)).toNat = _
      simp [addr_zero]
  · show Value.int .i64 (IntKind.i64.wrap ((T : Nat) : Int)) = _
    rw [wrap_i64 (by omega) (by omega)]
  · show Value.int .i64 (IntKind.i64.wrap ((T : Nat) : Int)) = _
    rw [wrap_i64 (by omega) (by omega)]
theorem c_repI (p : Option Addr) (cp n : Nat) (v : Int) (hp0 : p ≠ none) (hn : 0 < n) (hn2 : n ≤ 65536) : FnM Tryd.prog n_slices_Repeat___int_int_ [slv p 1 cp, .int .i64 n] (fun R => Cells R p (intsL [v])) fun w mq _ => ∃ q, w = slv q n n ∧ RowI mq q n (List.replicate n v) := by
  refine (repeat_of (sz := 1) (bytes := 8) S_slices_Repeat___int_int_ elI p cp 1 n (intsL [v]) hp0 (by omega) hn (by omega) rfl (by simp [intsL, Value.oneCell']) ?_).mono (fun _ h => h) ?_
  · intro c L ρ m R Dn A lv cv kt N hN hk hl hc
    exact .make (z := .int .i64 0) (bytes := 8) N Tryd.underlying29 (by kernel_rfl) rfl (by omega) (by simp [maxLen]; omega) (fun g hg hrow => hk g _ hg (by simp [size_madeCells])) hl hc
  · rintro w mq V ⟨g, ys, rfl, hr, hyl, hys⟩
    rw [Nat.one_mul] at *
    refine ⟨some ⟨g, 0, none⟩, rfl, .of ?_⟩
    have e : ys = intsL (List.replicate n v) := by
      apply List.ext_getElem?
      intro u
      rcases Nat.lt_or_ge u n with h | h
      · rw [hys u (by omega), Nat.mod_one]
        simp [intsL, List.getElem?_replicate, h]
      · rw [List.getElem?_eq_none (by omega), List.getElem?_eq_none (by simp [intsL]; omega)]
    rw [List.length_replicate, ← e]
    exact hr
theorem c_steps3 (r : IR) (k : Nat) (x : Int) (hk : k ≤ r.l.length) (hsm : r.l.length < 2 ^ 15) :
    FnM Tryd.prog n_multi_steps_3 [r.v, .int .i64 (k : Int), .int .i64 x] (fun _ => True) fun v mq _ => ∃ q cq, v = slv q (r.l.length + 1) cq ∧ Row mq 3 1 q cq (r.l.length + 1) (intsL (newS (r.l.length + 1) k x)) := by
  have hn1 : ar .add .i64 (r.l.length : Int) 1 = ((r.l.length + 1 : Nat) : Int) := by rw [addI (by omega) (by omega)]; omega
  refine FnM.of S_multi_steps_3 mx [.p r.p, .i r.l.length, .i r.cap, .i k, .i x] rfl rfl fun c _ => .alloc fun b0 => .chk (by ((try simp only [evE, liE, lO, lU, snd]); (try simp only [cmE])); omega) (.callM (c_repI (some ⟨b0, 0, none⟩) 1 (r.l.length + 1) (-1) (by simp) (by omega) (by omega)) ?_ rfl (fun g => g.cells (j := 0) rfl rfl rfl) ?_)
  · show [Value.slice (some ⟨b0, 0, none⟩) 1 1, Value.int .i64 (ar .add .i64 (r.l.length : Int) 1)] = _
    rw [hn1]; rfl
  · rintro v mq hfr ⟨q, rfl, hr⟩
    have hR := hr.row (by simp)
    rw [List.length_replicate] at hR
    have hR2 : Row (Mem.emp.join mq) 3 1 q (r.l.length + 1) (r.l.length + 1) (intsL (List.replicate (r.l.length + 1) (-1))) := hR.keep fun b _ _ => join_new rfl
    refine ⟨[.p q, .i (r.l.length + 1 : Nat), .i (r.l.length + 1 : Nat)], uOk_of rfl, (slv_fresh _ _ _ _ _).symm, .env (by (try simp only [liE, lO, lU, snd, aN]); rfl) (.storeR k (by omega) hR2 rfl rfl rfl fun m' g hg hr' hs' => .ret rfl ⟨q, r.l.length + 1, rfl, ?_⟩)⟩
    have : Row m' 3 1 q (r.l.length + 1) (r.l.length + 1) ((intsL (List.replicate (r.l.length + 1) (-1))).set k (.int .i64 x)) := hr'
    rw [intsL_set] at this
    exact this
end Go.Proofs.YtkhcfbdjmpodbaaDoor
/- Chapter 18: the column that a way makes. -/
namespace Go.Proofs.YtkhcfbdjmpodbaaDoor
open Go Go.Sy Go.RowKit
def Taken (rs : List IR) (u : Int) (i n : Nat) (r : IR) : Prop := if u = 1 then rs[i]? = some r else r.l = List.replicate n 0
theorem c_made (rs : List IR) (i n place : Nat) (j u w : Int) (fv : Value) (hfv : fv.oneCell' = true) (out : List Int) (a cb pb : Nat) (p pc : Option Addr) (cp cc ln : Nat) (hln : ln = n + 1) (hn : n < 2 ^ 20) (hi : u = 1 → i < rs.length) (hr : rs.length < 2 ^ 62)
    (hf : ∀ r : IR, Taken rs u i n r → FnV Tryd.prog fv [r.v, .int .i64 (place : Int), .int .i64 j] (fun R => Cells R r.p (intsL r.l)) fun v mq _ => ∃ q cq, v = slv q out.length cq ∧ Row mq 3 1 q cq out.length (intsL out)) :
    FnM Tryd.prog n_multi_insert_1 [.int .i64 (i : Int), .int .i64 j, .agg #[.int .i64 u, .int .i64 w, fv], .pointer (some ⟨a, 0, none⟩), .pointer (some ⟨cb, 0, none⟩), .pointer (some ⟨pb, 0, none⟩)]
      (fun R => Cells R (some ⟨a, 0, none⟩) [slv p ln cp] ∧ Cells R (some ⟨cb, 0, none⟩) [slv pc rs.length cc] ∧ Cells R (some ⟨pb, 0, none⟩) [.int .i64 (place : Int)] ∧ RowsAt R pc rs)
      fun v mq _ => ∃ q cq, v = slv q out.length cq ∧ Row mq 3 1 q cq out.length (intsL out) := by
  have hn1 : ar .sub .i64 (ln : Int) 1 = (n : Int) := by
    show IntKind.i64.wrap ((ln : Int) - 1) = _
    rw [wrap_i64 (by omega) (by omega)]; omega
  refine FnM.of S_multi_insert_1 mx [.i i, .i j, .i u, .i w, .v fv, .p (some ⟨a, 0, none⟩), .p (some ⟨cb, 0, none⟩), .p (some ⟨pb, 0, none⟩)] (by simp [Sh.eats, Sh.eat, eatV, eatP, eatS, eatI, hfv]) rfl fun c hp => .alloc' fun b0 _ hb0 _ => .loadS [slv p ln cp] 0 p ln cp rfl rfl (fun g => hp.1.mono g.R) (.env (by (try simp only [liE, lO, lU, snd, aN]); rfl) (.chk (by ((try simp only [evE, liE, lO, lU, snd]); (try simp only [cmE])); omega) (.make (z := .int .i64 0) (bytes := 8) n Tryd.underlying29 (by kernel_rfl) rfl (by omega) (by simp [maxLen]; omega) (fun g9 hg9 hrow => ?_) (by show Value.int .i64 (ar .sub .i64 (ln : Int) 1) = _; rw [hn1]) (by show Value.int .i64 (ar .sub .i64 (ln : Int) 1) = _; rw [hn1]))))
  generalize Mem.upd _ g9 _ = m9 at hrow ⊢
  refine .env (by (try simp only [liE, lO, lU, snd, aN]); rfl) (.join (fun us m => ∃ r : IR, us = [.p r.p, .i r.l.length, .i r.cap] ∧ Taken rs u i n r ∧ m9 = m ∧ (Cells c.R r.p (intsL r.l) ∨ Row m9 3 1 r.p r.cap r.l.length (intsL r.l))) (.ite (fun h1 => ?_) (fun h1 => ?_)) ?_)
  · ((try simp only [evE, liE, lO, lU, snd] at h1); (try simp only [cmE] at h1))
    have hi := hi h1
    refine .loadS [slv pc rs.length cc] 0 pc rs.length cc rfl rfl (fun g => hp.2.1.mono g.R) (.env (by (try simp only [liE, lO, lU, snd, aN]); rfl) (.loadSl (rs.map IR.v) i rs.length rs[i].p rs[i].l.length rs[i].cap hi (row_at rs i hi) (fun g => hp.2.2.2.1.mono g.R) (.env (by (try simp only [liE, lO, lU, snd, aN]); rfl) (.again rfl ⟨rs[i], by (simp only [evE, liE, lO, lU, snd, Sh.uss, Sh.us, atAddr, map_add0, List.append_nil]), ?_, rfl, .inl (hp.2.2.2.2 _ (List.getElem_mem hi))⟩))))
    unfold Taken; rw [if_pos h1, List.getElem?_eq_getElem hi]
  · ((try simp only [evE, liE, lO, lU, snd] at h1); (try simp only [cmE] at h1))
    refine .again rfl ⟨⟨some ⟨g9, 0, none⟩, n, List.replicate n 0⟩, ?_, ?_, rfl, .inr ?_⟩
    · (simp only [evE, liE, lO, lU, snd, Sh.uss, Sh.us, atAddr, map_add0, List.append_nil]); simp
    · unfold Taken; rw [if_neg h1]
    · unfold intsL; rw [List.map_replicate, List.length_replicate]; exact hrow
  · rintro us m _ ⟨r, rfl, ht, rfl, hrd⟩
    refine .env (by (try simp only [liE, lO, lU, snd, aN]); rfl) (.load1 (.int .i64 (place : Int)) _ _ 0 rfl rfl (fun g => hp.2.2.1.mono g.R) rfl (.env (by (try simp only [liE, lO, lU, snd, aN]); rfl) (.callvM (hf r ht) rfl rfl rfl (fun g => ?_) ?_)))
    · rcases hrd with h | h
      · exact h.mono g.R
      · exact h.reads g
    · rintro v mq hfr ⟨q, cq, rfl, hR⟩
      exact ⟨[.p q, .i (out.length : Nat), .i (cq : Nat)], uOk_of rfl, (slv_fresh _ _ _ _ _).symm, .env (by (try simp only [liE, lO, lU, snd, aN]); rfl) (.ret rfl ⟨q, cq, rfl, hR.joinR fun b hb => (hfr b hb).1⟩)⟩
end Go.Proofs.YtkhcfbdjmpodbaaDoor
/- Chapter 18: the reference's columns. -/
namespace Go.Proofs.YtkhcfbdjmpodbaaDoor
open Go Go.Sy Go.RowKit
theorem head_den {cap k : Nat} {q : Option Addr} : Value.slice (Option.map (fun a => a.add (if (cap : Int) = 0 then (0 : Int) else 0).toNat) q) ((k : Int)).toNat ((cap : Int)).toNat = slv q k cap := by
  rw [ite_self]
  cases q <;> simp [slv, addr_zero]
theorem newS_ins (n k : Nat) (x : Int) (hk : k ≤ n) : insS (List.replicate n (-1)) k x = newS (n + 1) k x := by
  unfold insS newS
  apply List.ext_getElem?
  intro i
  rw [List.take_replicate, List.drop_replicate, Nat.min_eq_left hk, List.getElem?_set, List.getElem?_replicate, List.length_replicate]
  rcases Nat.lt_trichotomy i k with h | h | h
  · rw [List.append_assoc, List.getElem?_append_left (by simpa using h), List.getElem?_replicate, if_pos h, if_neg (by omega), if_pos (by omega)]
  · subst h
    rw [List.append_assoc, List.getElem?_append_right (by simp), List.length_replicate, Nat.sub_self, if_pos rfl, if_pos (by omega)]; rfl
  · rw [List.getElem?_append_right (by simp; omega), if_neg (by omega)]
    simp only [List.length_append, List.length_replicate, List.length_cons, List.length_nil, List.getElem?_replicate]
    by_cases h2 : i < n + 1
    · rw [if_pos (by omega), if_pos h2]
    · rw [if_neg (by omega), if_neg h2]
end Go.Proofs.YtkhcfbdjmpodbaaDoor
/- Chapter 18: the column that the reference makes. -/
namespace Go.Sy
open Go Go.RowKit
def lookS (cols : List (List Int)) (n place i : Nat) (j what : Int) : List Int := if what = 1 then insS (cols.getD i []) place j else if what = 2 then insS (cols.getD i []) place (-1) else newS (n + 1) place j
def afterS (i j : Nat) (what : Int) : Nat × Nat := if what = 1 then (i + 1, j + 1) else if what = 2 then (i + 1, j) else (i, j + 1)
end Go.Sy
namespace Go.Proofs.YtkhcfbdjmpodbaaDoor
open Go Go.Sy Go.RowKit
end Go.Proofs.YtkhcfbdjmpodbaaDoor
/- Chapter 18: the least cost from a column and a sound on; plain law. -/
namespace Go.Sy
open Go Go.RowKit
def li0 (c : Nat → Nat → Nat → Int) (m n : Nat) : Nat → Int
  | 0 => 0
  | s + 1 => c 3 m (n - (s + 1)) + li0 c m n s
def liR (c : Nat → Nat → Nat → Int) (m n r : Nat) (prev : Nat → Int) : Nat → Int
  | 0 => c 2 (m - (r + 1)) n + prev 0
  | s + 1 => min (min (c 1 (m - (r + 1)) (n - (s + 1)) + prev s) (c 2 (m - (r + 1)) (n - (s + 1)) + prev (s + 1))) (c 3 (m - (r + 1)) (n - (s + 1)) + liR c m n r prev s)
def LI (c : Nat → Nat → Nat → Int) (m n : Nat) : Nat → Nat → Int
  | 0 => li0 c m n
  | r + 1 => liR c m n r (LI c m n r)
def AI (c : Nat → Nat → Nat → Int) (m n i j : Nat) : Int := LI c m n (m - i) (n - j)
def candI (c : Nat → Nat → Nat → Int) (m n i j what : Nat) : Option Int :=
  if (afterS i j what).1 ≤ m ∧ (afterS i j what).2 ≤ n then some (c what i j + AI c m n (afterS i j what).1 (afterS i j what).2) else none
def stepB (best : Int) : Option Int → Int
  | none => best
  | some s => if best < 0 ∨ s < best then s else best
theorem stepB_neg {b s : Int} (h : b < 0) : stepB b (some s) = s := if_pos (.inl h)
theorem stepB_pos {b s : Int} (h : 0 ≤ b) : stepB b (some s) = min b s := by
  show (if b < 0 ∨ s < b then s else b) = _
  split <;> omega
theorem stepB_none (b : Int) : stepB b none = b := rfl
theorem LI_nonneg {c : Nat → Nat → Nat → Int} (hc : ∀ w i j, 0 ≤ c w i j) (m n r s : Nat) : 0 ≤ LI c m n r s := by
  induction r generalizing s with
  | zero =>
    show 0 ≤ li0 c m n s
    induction s with
    | zero => exact Int.le_refl _
    | succ s ih => have := hc 3 m (n - (s + 1)); unfold li0; omega
  | succ r ih =>
    show 0 ≤ liR c m n r (LI c m n r) s
    induction s with
    | zero => have := hc 2 (m - (r + 1)) n; have := ih 0; unfold liR; omega
    | succ s ihs =>
      have h1 := hc 1 (m - (r + 1)) (n - (s + 1)); have h2 := hc 2 (m - (r + 1)) (n - (s + 1)); have h3 := hc 3 (m - (r + 1)) (n - (s + 1))
      have h4 := ih s; have h5 := ih (s + 1)
      unfold liR; omega
theorem AI_end (c : Nat → Nat → Nat → Int) (m n : Nat) : AI c m n m n = 0 := by unfold AI; rw [Nat.sub_self, Nat.sub_self]; rfl
theorem best_is {c : Nat → Nat → Nat → Int} (hc : ∀ w i j, 0 ≤ c w i j) {m n i j : Nat} (hi : i ≤ m) (hj : j ≤ n) :
    stepB (stepB (stepB (-1) (candI c m n i j 1)) (candI c m n i j 2)) (candI c m n i j 3) = if i = m ∧ j = n then -1 else AI c m n i j := by
  have hnn : ∀ i j, 0 ≤ AI c m n i j := fun i j => LI_nonneg hc m n _ _
  have a1 : afterS i j ((1 : Nat) : Int) = (i + 1, j + 1) := rfl
  have a2 : afterS i j ((2 : Nat) : Int) = (i + 1, j) := rfl
  have a3 : afterS i j ((3 : Nat) : Int) = (i, j + 1) := rfl
  unfold candI
  rw [a1, a2, a3]
  have h1 := hnn (i + 1) (j + 1); have h2 := hnn (i + 1) j; have h3 := hnn i (j + 1)
  have c1 := hc 1 i j; have c2 := hc 2 i j; have c3 := hc 3 i j
  rcases Nat.lt_or_ge i m with hi' | hi'
  · rcases Nat.lt_or_ge j n with hj' | hj'
    · have e : AI c m n i j = min (min (c 1 i j + AI c m n (i + 1) (j + 1)) (c 2 i j + AI c m n (i + 1) j)) (c 3 i j + AI c m n i (j + 1)) := by
        unfold AI
        obtain ⟨r, hr⟩ : ∃ r, m - i = r + 1 := ⟨m - i - 1, by omega⟩
        obtain ⟨s, hs⟩ : ∃ s, n - j = s + 1 := ⟨n - j - 1, by omega⟩
        rw [hr, hs, show m - (i + 1) = r by omega, show n - (j + 1) = s by omega]
        show liR c m n r (LI c m n r) (s + 1) = _
        unfold liR
        rw [show m - (r + 1) = i by omega, show n - (s + 1) = j by omega]
        rfl
      rw [if_pos ⟨by omega, by omega⟩, if_pos ⟨by omega, by omega⟩, if_pos ⟨by omega, by omega⟩, if_neg (by omega), e]
      show stepB (stepB (stepB (-1) (some (c 1 i j + AI c m n (i + 1) (j + 1)))) (some (c 2 i j + AI c m n (i + 1) j))) (some (c 3 i j + AI c m n i (j + 1))) = _
      have p1 : 0 ≤ c 1 i j + AI c m n (i + 1) (j + 1) := by omega
      have p2 : 0 ≤ c 2 i j + AI c m n (i + 1) j := by omega
      generalize c 1 i j + AI c m n (i + 1) (j + 1) = s1 at p1 ⊢
      generalize c 2 i j + AI c m n (i + 1) j = s2 at p2 ⊢
      have q1 : stepB (-1) (some s1) = s1 := stepB_neg (by omega)
      have q2 : stepB s1 (some s2) = min s1 s2 := stepB_pos p1
      rw [q1, q2, stepB_pos (by omega)]
    · have hjn : j = n := by omega
      subst hjn
      have e : AI c m j i j = c 2 i j + AI c m j (i + 1) j := by
        unfold AI
        obtain ⟨r, hr⟩ : ∃ r, m - i = r + 1 := ⟨m - i - 1, by omega⟩
        rw [hr, Nat.sub_self, show m - (i + 1) = r by omega]
        show liR c m j r (LI c m j r) 0 = _
        unfold liR
        rw [show m - (r + 1) = i by omega]
      rw [if_neg (fun h => by omega), if_pos ⟨by omega, by omega⟩, if_neg (fun h => by omega), if_neg (by omega), e]
      rw [stepB_none, stepB_none, stepB_neg (by omega)]
  · have him : i = m := by omega
    subst him
    rcases Nat.lt_or_ge j n with hj' | hj'
    · have e : AI c i n i j = c 3 i j + AI c i n i (j + 1) := by
        unfold AI
        obtain ⟨s, hs⟩ : ∃ s, n - j = s + 1 := ⟨n - j - 1, by omega⟩
        rw [hs, Nat.sub_self, show n - (j + 1) = s by omega]
        show li0 c i n (s + 1) = _
        unfold li0
        rw [show n - (s + 1) = j by omega]; rfl
      rw [if_neg (fun h => by omega), if_neg (fun h => by omega), if_pos ⟨by omega, by omega⟩, if_neg (by omega), e]
      rw [stepB_none, stepB_none, stepB_neg (by omega)]
    · have hjn : j = n := by omega
      subst hjn
      rw [if_neg (fun h => by omega), if_neg (fun h => by omega), if_neg (fun h => by omega), if_pos ⟨rfl, rfl⟩]
      rfl
end Go.Sy
/- Chapter 18: the way that is chosen; plain law. -/
namespace Go.Sy
open Go Go.RowKit
def stepP (x : Int × Nat) (w : Nat) : Option Int → Int × Nat
  | none => x
  | some s => if x.1 < 0 ∨ s < x.1 then (s, w) else x
theorem stepP_fst (x : Int × Nat) (w : Nat) (o : Option Int) : (stepP x w o).1 = stepB x.1 o := by
  cases o with
  | none => rfl
  | some s =>
    show (if x.1 < 0 ∨ s < x.1 then (s, w) else x).1 = if x.1 < 0 ∨ s < x.1 then s else x.1
    split <;> rfl
def pickI (c : Nat → Nat → Nat → Int) (m n i j : Nat) : Int × Nat := stepP (stepP (stepP (-1, 0) 1 (candI c m n i j 1)) 2 (candI c m n i j 2)) 3 (candI c m n i j 3)
theorem pick_fst {c : Nat → Nat → Nat → Int} (hc : ∀ w i j, 0 ≤ c w i j) {m n i j : Nat} (hi : i ≤ m) (hj : j ≤ n) : (pickI c m n i j).1 = if i = m ∧ j = n then -1 else AI c m n i j := by
  rw [← best_is hc hi hj]; unfold pickI; rw [stepP_fst, stepP_fst, stepP_fst]
def wayI (c : Nat → Nat → Nat → Int) (m n i j : Nat) : Nat := if candI c m n i j 1 = some (AI c m n i j) then 1 else if candI c m n i j 2 = some (AI c m n i j) then 2 else 3
theorem cand_nonneg {c : Nat → Nat → Nat → Int} (hc : ∀ w i j, 0 ≤ c w i j) {m n i j w : Nat} {s : Int} (h : candI c m n i j w = some s) : 0 ≤ s := by
  unfold candI at h
  split at h
  · cases h
    have := hc w i j
    have := LI_nonneg hc m n (m - (afterS i j w).1) (n - (afterS i j w).2)
    unfold AI; omega
  · cases h
theorem pick_snd {c : Nat → Nat → Nat → Int} (hc : ∀ w i j, 0 ≤ c w i j) {m n i j : Nat} (hi : i ≤ m) (hj : j ≤ n) (hne : ¬ (i = m ∧ j = n)) : (pickI c m n i j).2 = wayI c m n i j := by
  have h := pick_fst hc hi hj
  rw [if_neg hne] at h
  have hA : 0 ≤ AI c m n i j := LI_nonneg hc m n _ _
  unfold wayI
  unfold pickI at h ⊢
  rw [← h]
  have n1 := fun s => cand_nonneg hc (m := m) (n := n) (i := i) (j := j) (w := 1) (s := s)
  have n2 := fun s => cand_nonneg hc (m := m) (n := n) (i := i) (j := j) (w := 2) (s := s)
  have n3 := fun s => cand_nonneg hc (m := m) (n := n) (i := i) (j := j) (w := 3) (s := s)
  rw [← h] at hA
  revert n1 n2 n3 hA
  generalize candI c m n i j 1 = o1
  generalize candI c m n i j 2 = o2
  generalize candI c m n i j 3 = o3
  intro hA n1 n2 n3
  cases o1 with
  | none =>
    cases o2 with
    | none =>
      cases o3 with
      | none => exact absurd hA (by decide)
      | some s3 =>
        have := n3 s3 rfl
        simp only [stepP, if_pos (Or.inl (show (-1 : Int) < 0 by decide))]
        simp
    | some s2 =>
      have h2 := n2 s2 rfl
      cases o3 with
      | none => simp [stepP]
      | some s3 =>
        have h3 := n3 s3 rfl
        by_cases e : s3 < s2
        · have e1 : ¬ s2 = s3 := by omega
          have e2 : s2 < 0 ∨ s3 < s2 := .inr e
          simp [stepP, e, e1]
        · have e2 : ¬ (s2 < 0 ∨ s3 < s2) := by omega
          simp [stepP, e2]
  | some s1 =>
    have h1 := n1 s1 rfl
    cases o2 with
    | none =>
      cases o3 with
      | none => simp [stepP]
      | some s3 =>
        by_cases e : s3 < s1
        · have e1 : ¬ s1 = s3 := by omega
          simp [stepP, e, e1]
        · have e2 : ¬ (s1 < 0 ∨ s3 < s1) := by omega
          simp [stepP, e2]
    | some s2 =>
      have h2 := n2 s2 rfl
      by_cases d : s2 < s1
      · have d1 : ¬ s1 = s2 := by omega
        cases o3 with
        | none => simp [stepP, d, d1]
        | some s3 =>
          by_cases e : s3 < s2
          · have e1 : ¬ s1 = s3 := by omega
            have e3 : ¬ s2 = s3 := by omega
            simp [stepP, d, e, e1, e3]
          · have e2 : ¬ (s2 < 0 ∨ s3 < s2) := by omega
            simp [stepP, d, d1, e2]
      · have d2 : ¬ (s1 < 0 ∨ s2 < s1) := by omega
        cases o3 with
        | none => simp [stepP, d2]
        | some s3 =>
          by_cases e : s3 < s1
          · have e1 : ¬ s1 = s3 := by omega
            have e3 : ¬ s2 = s3 := by omega
            simp [stepP, d2, e, e1, e3]
          · have e2 : ¬ (s1 < 0 ∨ s3 < s1) := by omega
            simp [stepP, d2, e2]
def outI (c : Nat → Nat → Nat → Int) (m n : Nat) (col : Nat → Nat → Nat → List Int) : Nat → Nat → Nat → List (List Int)
  | 0, _, _ => []
  | k + 1, i, j => if i = m ∧ j = n then [] else col (wayI c m n i j) i j :: outI c m n col k (afterS i j (wayI c m n i j)).1 (afterS i j (wayI c m n i j)).2
end Go.Sy
/- Chapter 18: make of elements of more cells. -/
namespace Go.Sy
open Go Go.RowKit
section
variable {P : Program} {c : Cx} {L : List Nat} {ρ : Env} {blks : List Blk} {m : Mem} {R : Value → HW → Prop} {Dn : Nat → List U → HW → Prop} {A : List (List U → HW → Prop)}
theorem DenM.makeN {t e : TypeId} {bytes size : Nat} {z : Value} {l d : IT} {k : Tree} (n : Nat) (cs : List Value) (_ht : P.underlying t = some (.slice e)) (hinfo : (P.info? e).map (fun i => (i.zero, i.size, i.bytes)) = some (some z, size, bytes)) (hcs : (madeCells z.cells (n * size)).toList = cs) (hbytes : bytes * n ≤ 281474976710656) (h63 : n ≤ maxLen)
    (hk : ∀ g, m g = none → Row (m.upd g (.cells (madeCells z.cells (n * size)) e (0, 0))) e size (some ⟨g, 0, none⟩) n n cs → DenM P R Dn k L (ρ ++ [.p (some ⟨g, 0, none⟩), .i n, .i n]) c (m.upd g (.cells (madeCells z.cells (n * size)) e (0, 0))) A)
    (hl : Value.int .i64 (l.eval ρ) = .int .i64 n := by rfl) (hc : Value.int .i64 (d.eval ρ) = .int .i64 n := by rfl) :
    DenM P R Dn (.makev e bytes l d k) L ρ c m A := .makev n n (by simpa using hl) (by simpa using hc) (Nat.le_refl _) hbytes (by simpa [maxLen] using h63) fun g hmn _ _ => by
  have eb : (bigCells P e (some n)).toArray = madeCells z.cells (n * size) := by
    cases hi : P.info? e with
    | none => rw [hi] at hinfo; cases hinfo
    | some i =>
      rw [hi] at hinfo
      simp only [Option.map_some, Option.some.injEq, Prod.mk.injEq] at hinfo
      simp [bigCells, zeroCells, sizeT, hi, hinfo.1, hinfo.2.1]
  rw [eb]
  have hcl : cs.length = n * size := by rw [← hcs]; simp [size_madeCells]
  exact hk g hmn ⟨hcl, .inr ⟨g, _, rfl, Mem.upd_same _ _ _, Nat.le_refl _, h63, by rw [size_madeCells], by rw [hcs, List.take_of_length_le (by omega)]⟩⟩
end
theorem made_two (v : Value) (k : Nat) : (madeCells #[v, v] k).toList = List.replicate k v := by
  unfold madeCells
  apply List.ext_getElem
  · simp
  · intro i h1 h2
    simp only [Array.toList_map, List.getElem_map, List.getElem_replicate, List.size_toArray, List.length_cons, List.length_nil]
    rcases Nat.mod_two_eq_zero_or_one ((Array.range k).toList[i]'(by simpa using h1)) with h | h <;> simp only [h] <;> rfl
end Go.Sy
/- Chapter 18: a table whose rows are of pairs. -/
namespace Go.Sy
open Go Go.RowKit
structure PD where
  p : Option Addr
  cap : Nat
  v : List (Int × Int)
def PD.s (r : PD) : Value := slv r.p r.v.length r.cap
structure TabP (m : Mem) (eo ei : TypeId) (q : Option Addr) (cap : Nat) (rs : List PD) : Prop where
  out : Row m eo 1 q cap rs.length (rs.map PD.s)
  inn : ∀ r ∈ rs, Row m ei 2 r.p r.cap r.v.length (pcells r.v)
  apart : ∀ (i j : Nat) (hi : i < rs.length) (hj : j < rs.length) (g : Nat), i ≠ j → rs[i].p = some ⟨g, 0, none⟩ → rs[j].p ≠ some ⟨g, 0, none⟩
  ne : eo ≠ ei
theorem TabP.keep {m m' : Mem} {eo ei : TypeId} {q : Option Addr} {cap : Nat} {rs : List PD} (h : TabP m eo ei q cap rs) (hk : ∀ b, m b ≠ none → m' b = m b) : TabP m' eo ei q cap rs :=
  ⟨h.out.keep fun g _ hg => hk g hg, fun r hr => (h.inn r hr).keep fun g _ hg => hk g hg, h.apart, h.ne⟩
theorem TabP.setRow {m m' : Mem} {eo ei : TypeId} {q : Option Addr} {cap : Nat} {rs : List PD} (h : TabP m eo ei q cap rs) {j : Nat} (hj : j < rs.length) {r : PD} {g : Nat} (hq : q = some ⟨g, 0, none⟩) (ho : Row m' eo 1 q cap rs.length ((rs.map PD.s).set j r.s)) (hs : ∀ b, b ≠ g → m' b = m b)
    (hr : Row m ei 2 r.p r.cap r.v.length (pcells r.v)) (hnew : ∀ (i : Nat) (hi : i < rs.length) (b : Nat), rs[i].p = some ⟨b, 0, none⟩ → r.p ≠ some ⟨b, 0, none⟩) : TabP m' eo ei q cap (rs.set j r) where
  out := by rw [List.length_set, List.map_set]; exact ho
  inn x hx := by
    have hkeep : ∀ {y : PD}, Row m ei 2 y.p y.cap y.v.length (pcells y.v) → Row m' ei 2 y.p y.cap y.v.length (pcells y.v) := fun {y} hy => hy.keep fun b hb _ => hs b fun e => hy.apart h.out (fun e' => h.ne e'.symm) b hb (by rw [hq, e])
    rcases List.mem_or_eq_of_mem_set hx with hx | rfl
    · exact hkeep (h.inn x hx)
    · exact hkeep hr
  apart i k hi hk b hne hp := by
    rw [List.length_set] at hi hk
    rw [List.getElem_set] at hp ⊢
    split at hp
    · split
      · omega
      · intro h2; exact hnew k hk b h2 hp
    · split
      · exact hnew i hi b hp
      · exact h.apart i k hi hk b hne hp
  ne := h.ne
theorem TabP.setIn {m m' : Mem} {eo ei : TypeId} {q : Option Addr} {cap : Nat} {rs : List PD} (h : TabP m eo ei q cap rs) {i : Nat} (hi : i < rs.length) {j : Nat} {v : Int × Int} {g : Nat} (hg : rs[i].p = some ⟨g, 0, none⟩) (hr : Row m' ei 2 rs[i].p rs[i].cap rs[i].v.length (pcells (rs[i].v.set j v))) (hs : ∀ b, b ≠ g → m' b = m b) :
    TabP m' eo ei q cap (rs.set i ⟨rs[i].p, rs[i].cap, rs[i].v.set j v⟩) where
  out := by
    have e : (rs.set i ⟨rs[i].p, rs[i].cap, rs[i].v.set j v⟩).map PD.s = rs.map PD.s := by
      rw [List.map_set]
      have : PD.s ⟨rs[i].p, rs[i].cap, rs[i].v.set j v⟩ = (rs.map PD.s)[i]'(by simpa using hi) := by simp [PD.s]
      rw [this, List.set_getElem_self]
    rw [List.length_set, e]
    exact h.out.keep fun b hb _ => hs b fun e' => h.out.apart (h.inn _ (List.getElem_mem hi)) h.ne b hb (by rw [hg, e'])
  inn x hx := by
    obtain ⟨k, hk, rfl⟩ := List.mem_iff_getElem.1 hx
    rw [List.length_set] at hk
    rw [List.getElem_set]
    split
    · rw [List.length_set]; exact hr
    · rename_i hne
      exact (h.inn _ (List.getElem_mem hk)).keep fun b hb _ => hs b fun e' => h.apart i k hi hk g hne hg (by rw [hb, e'])
  apart a b ha hb c hne hp := by
    rw [List.length_set] at ha hb
    have hpp : ∀ (k : Nat) (hk : k < rs.length) (hk' : k < (rs.set i ⟨rs[i].p, rs[i].cap, rs[i].v.set j v⟩).length), ((rs.set i ⟨rs[i].p, rs[i].cap, rs[i].v.set j v⟩)[k]).p = rs[k].p := fun k hk hk' => by
      rw [List.getElem_set]
      split
      · rename_i e; subst e; rfl
      · rfl
    rw [hpp a ha] at hp
    rw [hpp b hb]
    exact h.apart a b ha hb c hne hp
  ne := h.ne
theorem put_take {α : Type} (A xs : List α) (o N : Nat) (h : o + xs.length ≤ N) (hA : N ≤ A.length) : (A.take o ++ xs ++ A.drop (o + xs.length)).take N = (A.take N).take o ++ xs ++ (A.take N).drop (o + xs.length) := by
  have h1 : (A.take o ++ xs).length = o + xs.length := by rw [List.length_append, List.length_take, Nat.min_eq_left (by omega)]
  rw [List.take_append, List.take_of_length_le (by omega), h1, List.drop_take, List.take_take, Nat.min_eq_left (by omega)]
theorem pcells_set (w : List (Int × Int)) (j : Nat) (h : j < w.length) (x : Int × Int) : putAt (pcells w) (j * 2) [.int .i64 x.1, .int .i64 x.2] = pcells (w.set j x) := by
  induction w generalizing j with
  | nil => simp at h
  | cons s w ih =>
    cases j with
    | zero => simp [putAt, pcells]
    | succ j =>
      have := ih j (by simpa using h)
      rw [List.set_cons_succ]
      show _ = [Value.int .i64 s.1, .int .i64 s.2] ++ pcells (w.set j x)
      rw [← this]
      have e : (j + 1) * 2 = j * 2 + 2 := by omega
      unfold putAt
      show List.take ((j + 1) * 2) (Value.int .i64 s.1 :: .int .i64 s.2 :: pcells w) ++ _ ++ List.drop ((j + 1) * 2 + 2) (Value.int .i64 s.1 :: .int .i64 s.2 :: pcells w) = _
      rw [e]
      simp [List.take_succ_cons]
section
variable {P : Program} {c : Cx} {L : List Nat} {ρ : Env} {blks : List Blk} {m : Mem} {R : Value → HW → Prop} {Dn : Nat → List U → HW → Prop} {A : List (List U → HW → Prop)}
theorem DenM.storeP {i : Nat} {I len : IT} {x y : SV} {k : Tree} {e : TypeId} {q : Option Addr} {cap : Nat} {w : List (Int × Int)} (j : Nat) (v : Int × Int) (hj : j < w.length) (hR : Row m e 2 q cap w.length (pcells w)) (hx : x.den L ρ = .int .i64 v.1) (hy : y.den L ρ = .int .i64 v.2) (hp : ρ.ptr i = q) (hI : I.eval ρ = (j : Int)) (hn : len.eval ρ = (w.length : Int))
    (hk : ∀ m' g, q = some ⟨g, 0, none⟩ → Row m' e 2 q cap w.length (pcells (w.set j v)) → (∀ b, b ≠ g → m' b = m b) → DenM P R Dn k L ρ c m' A) :
    DenM P R Dn (.chk (.pick (.cmp .geq I (.lit 0)) (.pick (.cmp .lss I len) (.some i) (.lit false)) (.lit false)) (.store false i (.off I 2 (.lit 0)) [x, y] blks k)) L ρ c m A := by
  rcases hR.2 with ⟨_, h, _⟩ | ⟨g, cur, hq, hg, h1, h2, h3, h4⟩
  · omega
  · subst hq
    have hput : putAt cur.toList (j * 2) (SV.dens L ρ [x, y]) = cur.toList.take (j * 2) ++ [.int .i64 v.1, .int .i64 v.2] ++ cur.toList.drop (j * 2 + 2) := by
      unfold putAt
      simp only [SV.dens, hx, hy]; rfl
    refine .chk ?_ (.store g (j * 2) cur e rfl ?_ hg (by simp; omega) (hk _ g rfl ⟨by rw [pcells_len, List.length_set], .inr ⟨g, _, rfl, Mem.upd_same _ _ _, h1, h2, ?_, ?_⟩⟩ fun b hb => Mem.upd_other _ _ hb))
    · simp only [BT.eval, IT.eval, hI, hn, hp, cm, pick_and]; simp; omega
    · simp only [atAddr, hp, IT.eval, hI, Option.map_some, addr_add]
      rw [show ((0 : Int) + (j : Int) * ((2 : Nat) : Int)).toNat = j * 2 by omega]; simp
    · rw [hput]
      simp only [List.size_toArray, List.length_append, List.length_take, List.length_drop, List.length_cons, List.length_nil, Array.length_toList]; omega
    · have hps := pcells_set w j hj v
      rw [← hps, ← h4, hput]
      exact put_take cur.toList [.int .i64 v.1, .int .i64 v.2] (j * 2) (w.length * 2) (by simp; omega) (by simp; have := Nat.mul_le_mul_right 2 h1; omega)
end
end Go.Sy
