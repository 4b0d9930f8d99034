/- Chapter 19: the law Limits. -/
import Derived.Test.YthabfpagilbplaaDoorBl
import Derived.Test.YthabfpagilbplaaDoorTcLimits
set_option linter.unusedSimpArgs false
set_option linter.unusedVariables false
namespace Go.Proofs.YthabfpagilbplaaDoor
open Go Go.Sy Go.RowKit
theorem c_hasF (x : FD) : FnM Tryd.prog n_law19_CognatesLimits_1 [.agg #[.bool x.has, x.w.v]] (fun _ => True) fun v _ _ => v = .bool x.has := by
  refine FnM.of S_law19_CognatesLimits_1 mx [.b x.has, .p x.w.p, .i x.w.w.length, .i x.w.cap] rfl ?_ fun c _ => .alloc fun b0 => .ret rfl rfl
  have := form_at [] [] x
  simp only [List.nil_append] at this
  show [Value.agg (SV.dens [] [U.b x.has, .p x.w.p, .i x.w.w.length, .i x.w.cap] (Sh.freshs [.bool, .sl] 0).1).toArray] = _
  rw [show (0 : Nat) = ([] : Env).length from rfl, this]
theorem rem300 {n : Int} (h : 0 ≤ n ∧ n < 65536) : ∃ N : Nat, IntKind.i64.wrap (ar .rem .u16 n 300) = (N : Int) ∧ N < 300 := by
  obtain ⟨v, rfl⟩ := Int.eq_ofNat_of_zero_le h.1
  have hm : v % 300 < 300 := Nat.mod_lt _ (by decide)
  refine ⟨v % 300, ?_, hm⟩
  show IntKind.i64.wrap ((v % 300 : Nat) : Int) = _
  exact wrap_i64 (by omega) (by omega)
theorem one_d {d : Int} (hd : 0 ≤ d ∧ d < 256) : ar .add .i64 1 (IntKind.i64.wrap d) = 1 + d := by
  rw [show IntKind.i64.wrap d = d from wrap_i64 (by omega) (by omega)]; exact wrap_i64 (by omega) (by omega)
theorem lim_ok {N D : Int} (h1 : 0 ≤ N) (h2 : 0 < D) : limB N D = true := by unfold limB; rw [decide_eq_true (by omega), decide_eq_true (by omega)]; rfl
theorem mul_small {a b : Int} (ha : 0 ≤ a ∧ a ≤ 68719476736) (hb : 0 ≤ b ∧ b ≤ 1000) : ar .mul .i64 a b = a * b := by
  have h1 : a * b ≤ 68719476736 * 1000 := Int.le_trans (Int.mul_le_mul_of_nonneg_right ha.2 hb.1) (Int.mul_le_mul_of_nonneg_left hb.2 (by decide))
  have h2 : 0 ≤ a * b := Int.mul_nonneg ha.1 hb.1
  exact wrap_i64 (by omega) (by omega)
theorem l_CognatesLimits (p : Option Addr) (cp : Nat) (rs : List IR) (a b e f n k d : Int) (hcp : rs.length ≤ cp) (hr : ∀ r ∈ rs, Rok8 r) (ha : 0 ≤ a ∧ a < 256) (hb : 0 ≤ b ∧ b < 256) (he : 0 ≤ e ∧ e < 256) (hf : 0 ≤ f ∧ f < 256) (hn : 0 ≤ n ∧ n < 65536) (hk : 0 ≤ k ∧ k < 65536) (hd : 0 ≤ d ∧ d < 256) :
    RetP Tryd.prog n_law19_CognatesLimits [slv p rs.length cp, .agg #[.int .u8 a, .int .u8 b, .int .u8 e, .int .u8 f], .int .u16 n, .int .u16 k, .int .u8 d] (fun R => Rows8At R p rs ∧ TabOk R) (.bool true) := by
  obtain ⟨N, en, hN⟩ := rem300 hn
  obtain ⟨K, ek, hK⟩ := rem300 hk
  have ed := one_d hd
  have eM : ar .add .i64 (N : Int) (K : Int) = ((N + K : Nat) : Int) := by rw [show ar .add .i64 (N : Int) (K : Int) = (N : Int) + K from wrap_i64 (by omega) (by omega)]; omega
  refine Fn.of S_law19_CognatesLimits mx [.p p, .i rs.length, .i cp, .i a, .i b, .i e, .i f, .i n, .i k, .i d] rfl rfl fun c hp => .alloc fun b0 => .callE (c_spelt p cp rs hcp hr) (fun g => hp.1.mono g.R) ?_
  rintro v mq m1 h1 h2 ⟨q, cq, l, rfl, hll, hcq, hfm, hsp⟩
  refine ⟨[.p q, .i l.length, .i cq], uOk_of rfl, (slv_fresh _ _ _ _ _).symm, ?_⟩
  have hl16 : l.length ≤ 16 := by omega
  have hfm := hfm.mono h2.mv
  clear h1 h2
  refine .env (by (try simp only [liE, letsOf, letU, snd, List.append_nil]); rfl) (.callE (c_costs19 a b e f ha hb he hf) (fun _ => trivial) ?_)
  rintro v mq m2 h1 h2 ⟨qc, cc, ws, gap, rfl, hwl, hcm, hc⟩
  refine ⟨[.p qc, .i ws.length, .i cc, .i gap], uOk_of rfl, (costs_fresh _ _ _ _ _ _).symm, ?_⟩
  have hfm := hfm.mono h1.mv
  have hcm := hcm.mono h2.mv
  clear h1 h2
  have hw : ∀ x ∈ l, checkW x.w.w = 0 := fun x hx => (hsp x hx).check
  have hok : ∀ x ∈ l, Wok x.w.w := fun x hx => (hsp x hx).ok
  have ch : ∀ {A B : Int}, 0 ≤ A → 0 < B → check19 ws gap l A B = 0 := fun h1 h2 => SpF.chk hsp hl16 hc (lim_ok h1 h2)
  have kx := c_Labels q cq l qc cc ws gap N (1 + d) hcq (by omega) hok (by omega) (by omega)
  have ky := c_Labels q cq l qc cc ws gap (N + K : Nat) (1 + d) hcq (by omega) hok (by omega) (by omega)
  have kone := c_Labels q cq l qc cc ws gap 7 7 hcq (by omega) hok (by decide) (by decide)
  have kall := c_Average q cq l qc cc ws gap 9223372036854775807 9223372036854775807 hcq (by omega) hok (by decide) (by decide)
  rw [labelsE_ok (ch (by omega) (by omega))] at kx ky
  rw [labelsE_ok (ch (by decide) (by decide))] at kone
  rw [averageE_ok (ch (by decide) (by decide)), one_same hc (K := 7) (by decide) (by decide)] at kall
  have hCx := labels_near ws gap l N (1 + d)
  have hCy := labels_near ws gap l (N + K : Nat) (1 + d)
  have hCo := labels_near ws gap l 7 7
  have hFin := limits_finer (l := l) hc hw (N := N) (N' := (N + K : Nat)) (D := 1 + d) (by omega)
  have lenx := labelsF_len ws gap l N (1 + d)
  have leny := labelsF_len ws gap l (N + K : Nat) (1 + d)
  have leno := labelsF_len ws gap l 7 7
  have hnear : ∀ {i j : Nat} (hi : i < l.length) (hj : j < i), l[i].has = true → l[j].has = true → nearB ws gap l N (1 + d) i j = true → labAt (labelsF ws gap l N (1 + d)) i = labAt (labelsF ws gap l N (1 + d)) j := fun hi hj h1 h2 h3 => near_same hi hj h1 h2 h3
  obtain ⟨x, hx⟩ : ∃ x, labelsF ws gap l (N : Int) (1 + d) = x := ⟨_, rfl⟩
  obtain ⟨y, hy⟩ : ∃ y, labelsF ws gap l ((N + K : Nat) : Int) (1 + d) = y := ⟨_, rfl⟩
  obtain ⟨o, hone⟩ : ∃ o, labelsF ws gap l 7 7 = o := ⟨_, rfl⟩
  rw [hx] at kx hCx hFin lenx
  rw [hy] at ky hCy hFin leny
  rw [hone] at kone kall hCo leno
  simp only [hx] at hnear
  refine .env (by (try simp only [liE, letsOf, letU, snd, List.append_nil]); rfl) (.alloc fun b1 => .callV (c_frac N (1 + d)) (fun _ => trivial) (.env (by (try simp only [liE, letsOf, letU, snd, List.append_nil]); rfl) (.callV (c_frac (N + K : Nat) (1 + d)) (fun _ => trivial) (.env (by (try simp only [liE, letsOf, letU, snd, List.append_nil]); rfl) (.alloc fun b2 => .alloc fun b3 => .callI kx (fun g => ⟨hfm.mono g.mv, hcm.mono g.mv, hp.2.mono g.R⟩) fun qx cx m3 h1 hrx => ?_)) (hargs := by show [Value.int .i64 (ar .add .i64 (IntKind.i64.wrap (ar .rem .u16 n 300)) (IntKind.i64.wrap (ar .rem .u16 k 300))), .int .i64 (ar .add .i64 1 (IntKind.i64.wrap d))] = _; rw [en, ek, ed, eM]))) (hargs := by show [Value.int .i64 (IntKind.i64.wrap (ar .rem .u16 n 300)), .int .i64 (ar .add .i64 1 (IntKind.i64.wrap d))] = _; rw [en, ed]))
  have hfm := hfm.mono h1.mv
  have hcm := hcm.mono h1.mv
  refine .env (by (try simp only [liE, letsOf, letU, snd, List.append_nil]); rfl) (.callI ky (fun g => ⟨hfm.mono g.mv, hcm.mono g.mv, hp.2.mono g.R⟩) fun qy cy m4 h1 hry => ?_)
  have hfm := hfm.mono h1.mv
  have hcm := hcm.mono h1.mv
  have hrx := hrx.le' h1
  refine .env (by (try simp only [liE, letsOf, letU, snd, List.append_nil]); rfl) (.no (by ((try simp only [evE, liE, letsOf, letU, snd]); (try simp only [cmE])) <;> simp) (.callV (c_labelsB q qx cq cx l _ (by omega) hCx) (fun g => ⟨hfm.mono g.mv, hrx.reads g⟩) (.env (by (try simp only [liE, letsOf, letU, snd, List.append_nil]); rfl) (.no rfl (.callV (c_labelsB q qy cq cy l _ (by omega) hCy) (fun g => ⟨hfm.mono g.mv, hry.reads g⟩) (.env (by (try simp only [liE, letsOf, letU, snd, List.append_nil]); rfl) (.no rfl (.callV (c_finerB qx qy cx cy _ _ (by omega) (by omega) hFin) (fun g => ⟨hrx.reads g, hry.reads g⟩) (.env (by (try simp only [liE, letsOf, letU, snd, List.append_nil]); rfl) (.no rfl (.chk (by ((try simp only [evE, liE, letsOf, letU, snd]); (try simp only [cmE])); omega) ?_)))))))))))
  clear kx ky hry hCy hFin
  refine .loop (fun n us m => ∃ (e : Bool) (i : Nat), i ≤ l.length ∧ us = [.b e, .i i] ∧ n = l.length - i ∧ m = m4) l.length ⟨false, 0, Nat.zero_le _, rfl, rfl, rfl⟩ ?_
  rintro n us m5 _ ⟨e, i, hi, rfl, rfl, rfl⟩
  refine .env (by (try simp only [liE, letsOf, letU, snd, List.append_nil]); rfl) (.ite (fun h2 => ?_) (fun h2 => ?_)) <;> ((try simp only [evE, liE, letsOf, letU, snd] at h2); (try simp only [cmE] at h2))
  · have hi : i < l.length := by omega
    refine .loadFD l i hi (fun g => hfm.1.mono g.mv) (.alloc fun b4 => .env (by (try simp only [liE, letsOf, letU, snd, List.append_nil]); rfl) (.chk (by ((try simp only [evE, liE, letsOf, letU, snd]); (try simp only [cmE])); simp; omega) (.chk (by ((try simp only [evE, liE, letsOf, letU, snd]); (try simp only [cmE])); omega) ?_)))
    refine .loop (fun n us m => ∃ (e : Bool) (j : Nat), j ≤ i ∧ us = [.b e, .i j] ∧ n = i - j ∧ m = m5) i ⟨e, 0, Nat.zero_le _, rfl, rfl, rfl⟩ ?_
    rintro n us m6 _ ⟨e, j, hj, rfl, rfl, rfl⟩
    refine .env (by (try simp only [liE, letsOf, letU, snd, List.append_nil]); rfl) (.ite (fun h3 => ?_) (fun h3 => .again rfl ⟨_, ?_, e, i + 1, by omega, ?_, rfl, rfl⟩)) <;> ((try simp only [evE, liE, letsOf, letU, snd] at h3); (try simp only [cmE] at h3))
    · have hj : j < i := by omega
      have hjl : j < l.length := by omega
      refine .loadFDM l j i hj hjl rfl (fun g => hfm.1.mono g.mv) (.alloc fun b5 => .env (by (try simp only [liE, letsOf, letU, snd, List.append_nil]); rfl) (.ite (fun h4 => .again rfl ⟨_, ?_, e, j + 1, by omega, ?_, rfl, rfl⟩) (fun h4 => ?_)))
      · omega
      · (simp only [evE, liE, letsOf, letU, snd, Sh.uss, Sh.us, atAddr, map_add0, List.append_nil]); rw [add_i64 j (by omega)]
      replace h4 : (bif (!l[i].has) then true else (!l[j].has)) = false := h4
      have hhi : l[i].has = true := by cases h : l[i].has <;> rw [h] at h4 <;> simp at h4 ⊢
      have hhj : l[j].has = true := by rw [hhi] at h4; simpa using h4
      have hwi := hw _ (List.getElem_mem hi)
      have hwj := hw _ (List.getElem_mem hjl)
      have hrat := ratio_near (N := (N : Int)) (D := 1 + d) hc hw hi hjl (by omega) hhi hhj
      have hsm := ratio_small hc hwi hwj
      have hcr := c_editRatio l[i].w l[j].w qc cc ws gap (hok _ (List.getElem_mem hi)) (hok _ (List.getElem_mem hjl))
      rw [hsm.1] at hcr
      have heq := c_eqS l[i].w l[j].w (by have := (hsp _ (List.getElem_mem hi)).len; omega)
      have hnr : (ratioE ws gap l[i].w.w l[j].w.w).1.1 * (1 + d) ≤ (N : Int) * (ratioE ws gap l[i].w.w l[j].w.w).1.2 → nearB ws gap l N (1 + d) i j = true := fun h => by
        rw [← hrat.1]; unfold leF; exact decide_eq_true h
      generalize (ratioE ws gap l[i].w.w l[j].w.w).1 = r at *
      have em1 : ar .mul .i64 r.1 (1 + d) = r.1 * (1 + d) := mul_small ⟨hsm.2.1, hsm.2.2.1⟩ ⟨by omega, by omega⟩
      have em2 : ar .mul .i64 (N : Int) r.2 = (N : Int) * r.2 := by
        have := mul_small (a := r.2) (b := (N : Int)) ⟨by omega, hsm.2.2.2.2⟩ ⟨by omega, by omega⟩
        rw [Int.mul_comm (N : Int), ← this]
        show IntKind.i64.wrap ((N : Int) * r.2) = IntKind.i64.wrap (r.2 * (N : Int))
        rw [Int.mul_comm]
      have hix : i < x.length := by omega
      have hjx : j < x.length := by omega
      have nxt : ∀ {us : List U}, us = [.b e, .i (ar .add .i64 (j : Int) 1)] → ∃ n', n' < i - j ∧ ∃ (e : Bool) (j : Nat), j ≤ i ∧ us = [.b e, .i j] ∧ n' = i - j ∧ m6 = m6 := fun {us} h => ⟨i - (j + 1), by omega, e, j + 1, by omega, by rw [h, add_i64 j (by omega)], rfl, rfl⟩
      refine .callV hcr (fun g => ⟨(hfm.2 _ (List.getElem_mem hi)).mono g.mv, (hfm.2 _ (List.getElem_mem hjl)).mono g.mv, hcm.mono g.mv, hp.2.mono g.R⟩) (.env (by (try simp only [liE, letsOf, letU, snd, List.append_nil]); rfl) (.alloc fun b6 => .no (by ((try simp only [evE, liE, letsOf, letU, snd]); (try simp only [cmE])) <;> simp) (.callV heq (fun g => ⟨(hfm.2 _ (List.getElem_mem hi)).mono g.mv, (hfm.2 _ (List.getElem_mem hjl)).mono g.mv⟩) (.env (by (try simp only [liE, letsOf, letU, snd, List.append_nil]); rfl) (.ite (fun h5 => ?_) (fun h5 => ?_))))))
      · replace h5 : decide (l[i].w.w = l[j].w.w) = true := h5
        have hs := hnear hi hj hhi hhj (near_eq hc (by omega) hi hjl (by omega) hhi hhj (of_decide_eq_true h5))
        refine .elem1 (.int .i64 (labAt x i)) (intsL x) i x.length rfl rfl hix (fun g => hrx.reads g) (intsL_at _ _ hix) (.env (by (try simp only [liE, letsOf, letU, snd, List.append_nil]); rfl) (.elem1 (.int .i64 (labAt x j)) (intsL x) j x.length rfl rfl hjx (fun g => hrx.reads g) (intsL_at _ _ hjx) (.env (by (try simp only [liE, letsOf, letU, snd, List.append_nil]); rfl) ?_)))
        rw [hs]
        refine .yes (by ((try simp only [evE, liE, letsOf, letU, snd]); (try simp only [cmE])) <;> simp) (.ite (fun h6 => ?_) (fun h6 => .again rfl (nxt (by (simp only [evE, liE, letsOf, letU, snd, Sh.uss, Sh.us, atAddr, map_add0, List.append_nil]) <;> rfl))))
        refine .elem1 (.int .i64 (labAt x i)) (intsL x) i x.length rfl rfl hix (fun g => hrx.reads g) (intsL_at _ _ hix) (.env (by (try simp only [liE, letsOf, letU, snd, List.append_nil]); rfl) (.elem1 (.int .i64 (labAt x j)) (intsL x) j x.length rfl rfl hjx (fun g => hrx.reads g) (intsL_at _ _ hjx) (.env (by (try simp only [liE, letsOf, letU, snd, List.append_nil]); rfl) ?_)))
        rw [hs]
        exact .no (by ((try simp only [evE, liE, letsOf, letU, snd]); (try simp only [cmE])) <;> simp) (.again rfl (nxt (by (simp only [evE, liE, letsOf, letU, snd, Sh.uss, Sh.us, atAddr, map_add0, List.append_nil]) <;> rfl)))
      · refine .ite (fun h6 => ?_) (fun h6 => .again rfl (nxt (by (simp only [evE, liE, letsOf, letU, snd, Sh.uss, Sh.us, atAddr, map_add0, List.append_nil]) <;> rfl)))
        replace h6 : decide (ar .mul .i64 r.1 (1 + d) ≤ ar .mul .i64 (N : Int) r.2) = true := h6
        rw [em1, em2] at h6
        have hs := hnear hi hj hhi hhj (hnr (of_decide_eq_true h6))
        refine .elem1 (.int .i64 (labAt x i)) (intsL x) i x.length rfl rfl hix (fun g => hrx.reads g) (intsL_at _ _ hix) (.env (by (try simp only [liE, letsOf, letU, snd, List.append_nil]); rfl) (.elem1 (.int .i64 (labAt x j)) (intsL x) j x.length rfl rfl hjx (fun g => hrx.reads g) (intsL_at _ _ hjx) (.env (by (try simp only [liE, letsOf, letU, snd, List.append_nil]); rfl) ?_)))
        rw [hs]
        exact .no (by ((try simp only [evE, liE, letsOf, letU, snd]); (try simp only [cmE])) <;> simp) (.again rfl (nxt (by (simp only [evE, liE, letsOf, letU, snd, Sh.uss, Sh.us, atAddr, map_add0, List.append_nil]) <;> rfl)))
    · omega
    · have : j = i := by omega
      subst this
      (simp only [evE, liE, letsOf, letU, snd, Sh.uss, Sh.us, atAddr, map_add0, List.append_nil]); rw [add_i64 j (by omega)]
  · have heo := c_eqI
    refine .callV (c_frac 7 7) (fun _ => trivial) (.env (by (try simp only [liE, letsOf, letU, snd, List.append_nil]); rfl) (.callI kone (fun g => ⟨hfm.mono g.mv, hcm.mono g.mv, hp.2.mono g.R⟩) fun qo co m6 h1 hro => ?_))
    have hfm := hfm.mono h1.mv
    have hcm := hcm.mono h1.mv
    refine .env (by (try simp only [liE, letsOf, letU, snd, List.append_nil]); rfl) (.callV (c_frac 9223372036854775807 9223372036854775807) (fun _ => trivial) (.env (by (try simp only [liE, letsOf, letU, snd, List.append_nil]); rfl) (.callI kall (fun g => ⟨hfm.mono g.mv, hcm.mono g.mv, hp.2.mono g.R⟩) fun qa ca m7 h1 hra => ?_)))
    have hfm := hfm.mono h1.mv
    have hro := hro.le' h1
    have heq := c_eqI qo qa co ca o o (by omega)
    rw [decide_eq_true rfl] at heq
    refine .env (by (try simp only [liE, letsOf, letU, snd, List.append_nil]); rfl) (.no (by ((try simp only [evE, liE, letsOf, letU, snd]); (try simp only [cmE])) <;> simp) (.callV heq (fun g => ⟨hro.reads g, hra.reads g⟩) (.env (by (try simp only [liE, letsOf, letU, snd, List.append_nil]); rfl) (.no rfl (.callV (c_labelsB q qo cq co l _ (by omega) hCo) (fun g => ⟨hfm.mono g.mv, hro.reads g⟩) (.env (by (try simp only [liE, letsOf, letU, snd, List.append_nil]); rfl) (.no rfl (.chk (by ((try simp only [evE, liE, letsOf, letU, snd]); (try simp only [cmE])); omega) ?_))))))))
    refine .loop (fun n us m => ∃ (e : Bool) (i : Nat), i ≤ o.length ∧ us = [.b e, .i i] ∧ n = o.length - i ∧ m = m7) o.length ⟨e, 0, Nat.zero_le _, rfl, rfl, rfl⟩ ?_
    rintro n us m8 _ ⟨e, i, hi, rfl, rfl, rfl⟩
    refine .env (by (try simp only [liE, letsOf, letU, snd, List.append_nil]); rfl) (.ite (fun h3 => ?_) (fun h3 => .callV c_works (fun g => hp.2.mono g.R) (.ret rfl rfl))) <;> ((try simp only [evE, liE, letsOf, letU, snd] at h3); (try simp only [cmE] at h3))
    have hi : i < o.length := by omega
    have hil : i < l.length := by omega
    have nxt : ∀ {us : List U}, us = [.b e, .i (ar .add .i64 (i : Int) 1)] → ∃ n', n' < o.length - i ∧ ∃ (e : Bool) (j : Nat), j ≤ o.length ∧ us = [.b e, .i j] ∧ n' = o.length - j ∧ m8 = m8 := fun {us} h => ⟨o.length - (i + 1), by omega, e, i + 1, by omega, by rw [h, add_i64 i (by omega)], rfl, rfl⟩
    have hat := has_at l i hil
    refine .elem1 (.int .i64 (labAt o i)) (intsL o) i o.length rfl rfl hi (fun g => hro.reads g) (intsL_at _ _ hi) (.env (by (try simp only [liE, letsOf, letU, snd, List.append_nil]); rfl) (.ite (fun h4 => ?_) (fun h4 => ?_))) <;> ((try simp only [evE, liE, letsOf, letU, snd] at h4); (try simp only [cmE] at h4))
    · have hhi := canon_has hCo hi h4
      obtain ⟨z, z1, z2, z3, z4⟩ := hCo.yes i hhi
      have hzl : z ≤ l.length := by omega
      have hno : (l.take z).any (·.has) = false := any_false fun t ht => by
        rw [List.length_take] at ht
        have htl : t < l.length := by omega
        rw [List.getElem_take]
        cases hh : l[t].has with
        | false => rfl
        | true =>
          have e1 := has_at l t htl
          rw [hh] at e1
          have := (hCo.least hhi z1).2 t e1 ((hCo.conn i t hhi e1).1 (by rw [← hone]; exact one_all hc (by decide) hhi e1))
          omega
      have hcon := c_indexF q cq (l.take z) (.func (.func n_law19_CognatesLimits_1) #[] #[]) rfl (·.has) (by rw [List.length_take]; omega) fun x _ => .of0 (by kernel_rfl) (c_hasF x)
      rw [hno, List.length_take, Nat.min_eq_left hzl] at hcon
      rw [z1]
      refine .chk (by ((try simp only [evE, liE, letsOf, letU, snd]); (try simp only [cmE])); simp; omega) (.callV hcon (fun g => (FormsAt.take hfm z).1.mono g.mv) (.env (by (try simp only [liE, letsOf, letU, snd, List.append_nil]); rfl) (.no rfl (.loadHas l i hil (fun g => hfm.1.mono g.mv) (.env (by (try simp only [liE, letsOf, letU, snd, List.append_nil]); rfl) (.no ?_ (.again rfl (nxt (by (simp only [evE, liE, letsOf, letU, snd, Sh.uss, Sh.us, atAddr, map_add0, List.append_nil]) <;> rfl)))))))) (hargs := ?_))
      · ((try simp only [evE, liE, letsOf, letU, snd]); (try simp only [cmE])) <;> simp [pick_and] <;> intros <;> omega
      · have hs : ∀ {ρ : Env} {L : List Nat} {C : IT}, ρ.ptr 10 = q → ρ.int 12 = (cq : Int) → ρ.int 50 = (z : Int) → (SV.sl 10 (.ifeq C (.lit 0) (.lit 0) (.lit 0)) (.var 50) (.var 12)).den L ρ = slv q z cq := fun {ρ L C} e1 e2 e3 => by
          have ez : (IT.ifeq C (.lit 0) (.lit 0) (.lit 0)).eval ρ = 0 := by simp only [IT.eval]; by_cases h : IT.eval ρ C = 0 <;> simp [h]
          show Value.slice (atAddr ρ 10 ((IT.ifeq C (.lit 0) (.lit 0) (.lit 0)).eval ρ)) (ρ.int 50).toNat (ρ.int 12).toNat = _
          rw [ez, e2, e3]
          unfold atAddr slv
          rw [e1]
          cases q <;> simp [addr_zero]
        show [SV.den _ _ (SV.sl 10 (.ifeq (.var 12) (.lit 0) (.lit 0) (.lit 0)) (.var 50) (.var 12)), _] = _
        rw [hs rfl rfl rfl]; rfl
    · have hh : l[i].has = false := by
        cases h : l[i].has with
        | false => rfl
        | true =>
          rw [h] at hat
          obtain ⟨z, z1, _⟩ := hCo.yes i hat
          omega
      refine .loadHas l i hil (fun g => hfm.1.mono g.mv) (.env (by (try simp only [liE, letsOf, letU, snd, List.append_nil]); rfl) ?_)
      rw [hh]
      exact .no rfl (.again rfl (nxt (by (simp only [evE, liE, letsOf, letU, snd, Sh.uss, Sh.us, atAddr, map_add0, List.append_nil]) <;> rfl)))
end Go.Proofs.YthabfpagilbplaaDoor
