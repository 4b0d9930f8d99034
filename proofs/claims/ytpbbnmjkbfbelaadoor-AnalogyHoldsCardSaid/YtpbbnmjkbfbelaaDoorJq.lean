/- Chapter 30: paradigm.Check and the reference's. -/
import Derived.Test.YtpbbnmjkbfbelaaDoorJp
set_option linter.unusedSimpArgs false
set_option linter.unusedVariables false
namespace Go.Sy
open Go Go.RowKit
theorem head_len {t : List LD} (h : 0 < t.length) : (t.head?.map (·.fs.length)).getD 0 = t[0].fs.length := by
  cases t with
  | nil => simp at h
  | cons r t => rfl
theorem tshape_12 {t : List LD} (h : t.length > 64 ∨ t.any wide = true) : tshape t = 12 := by unfold tshape; rw [if_pos h]
theorem tshape_2 {t : List LD} (h1 : t.length ≤ 64) (h2 : t.any wide = false) (h3 : t.any (badRow ((t.head?.map (·.fs.length)).getD 0)) = true) : tshape t = 2 := by
  unfold tshape; rw [if_neg (by rw [h2]; simp; omega), if_pos h3]
theorem tshape_0 {t : List LD} (h1 : t.length ≤ 64) (h2 : t.any wide = false) (h3 : t.any (badRow ((t.head?.map (·.fs.length)).getD 0)) = false) : tshape t = 0 := by
  unfold tshape; rw [if_neg (by rw [h2]; simp; omega), if_neg (by simp [h3])]
end Go.Sy
namespace Go.Proofs.YtpbbnmjkbfbelaaDoor
open Go Go.Sy Go.RowKit
theorem c_shape (p : Option Addr) (cp : Nat) (t : List LD) (hl : t.length < 2 ^ 62) (hf : ∀ r ∈ t, r.fs.length < 2 ^ 62) : RetP Tryd.prog n_paradigm_shape [slv p t.length cp] (fun R => TableAt R p t) (.int .i64 (tshape t)) := by
  refine Fn.of S_paradigm_shape mx [.p p, .i t.length, .i cp] rfl rfl fun c hp => .chk (by ((try simp only [evE, liE, letsOf, letU, snd]); (try simp only [cmE])); omega) (.ite (fun h1 => .ret rfl ?_) (fun h1 => ?_)) <;> ((try simp only [evE, liE, letsOf, letU, snd] at h1); (try simp only [cmE] at h1))
  · rw [tshape_12 (.inl (by omega))]; rfl
  refine .callV (c_indexT p cp t (.func (.func n_paradigm_shape_1) #[] #[]) rfl wide hl fun x _ => FnV.of0 rfl (c_shape1 x)) (fun g => hp.1.mono g.R) (.env (by (try simp only [liE, letsOf, letU, snd, List.append_nil]); rfl) (.ite (fun h2 => .ret rfl ?_) (fun h2 => .chk (by ((try simp only [evE, liE, letsOf, letU, snd]); (try simp only [cmE])); omega) ?_)))
  · replace h2 : t.any wide = true := h2
    rw [tshape_12 (.inr h2)]; rfl
  replace h2 : t.any wide = false := h2
  rw [h2]
  refine .loop (fun n us _ => ∃ (e : Int) (i : Nat), us = [.i e, .i i] ∧ n + i = t.length ∧ ∀ k (hk : k < t.length), k < i → badRow ((t.head?.map (·.fs.length)).getD 0) t[k] = false) t.length ⟨0, 0, rfl, rfl, fun i hi h => by omega⟩ ?_
  rintro n _ m _ ⟨e, i, rfl, hn, hb⟩
  refine .env (by (try simp only [liE, letsOf, letU, snd, List.append_nil]); rfl) (.ite (fun h3 => ?_) (fun h3 => .ret rfl ?_)) <;> ((try simp only [evE, liE, letsOf, letU, snd] at h3); (try simp only [cmE] at h3))
  · have hi : i < t.length := by omega
    have h0 : 0 < t.length := by omega
    have hd := head_len h0
    rw [hd] at hb
    refine .loadLD t i hi (fun g => hp.1.mono g.R) (.env (by (try simp only [liE, letsOf, letU, snd, List.append_nil]); rfl) (.chk (by ((try simp only [evE, liE, letsOf, letU, snd]); (try simp only [cmE])); omega) (.loadL0 t h0 (fun g => hp.1.mono g.R) (.env (by (try simp only [liE, letsOf, letU, snd, List.append_nil]); rfl) (.chk (by ((try simp only [evE, liE, letsOf, letU, snd]); (try simp only [cmE])); omega) (.ite (fun h4 => .ret rfl ?_) (fun h4 => ?_))))))) <;> ((try simp only [evE, liE, letsOf, letU, snd] at h4); (try simp only [cmE] at h4))
    · rw [tshape_2 (by omega) h2 (any_true hi (by rw [hd]; simp [badRow]; omega))]; rfl
    refine .callV (c_indexF t[i].p t[i].cap t[i].fs (.func (.func n_paradigm_shape_2) #[] #[]) rfl blankF (hf _ (List.getElem_mem hi)) fun x _ => FnV.of0 rfl (c_shape2 x)) (fun g => (hp.2 _ (List.getElem_mem hi)).1.mono g.R) (.env (by (try simp only [liE, letsOf, letU, snd, List.append_nil]); rfl) (.ite (fun h5 => .ret rfl ?_) (fun h5 => .again rfl ⟨n - 1, by omega, e, i + 1, ?_, by omega, fun k hk hki => ?_⟩)))
    · replace h5 : t[i].fs.any blankF = true := h5
      rw [tshape_2 (by omega) h2 (any_true hi (by rw [hd]; unfold badRow; rw [h5]; simp))]; rfl
    · (simp only [evE, liE, letsOf, letU, snd, Sh.uss, Sh.us, atAddr, map_add0, List.append_nil]); rw [add_i64 i (by omega)]
    · replace h5 : t[i].fs.any blankF = false := h5
      rcases Nat.lt_or_ge k i with h | h
      · rw [hd]; exact hb k hk h
      · have : k = i := by omega
        subst this
        rw [hd]; unfold badRow; rw [h5]; simp; omega
  · rw [tshape_0 (by omega) h2 (any_false fun k hk => hb k hk (by omega))]; rfl
theorem c_pwords (p : Option Addr) (cp : Nat) (t : List LD) (hl : t.length < 2 ^ 62) (hf : ∀ r ∈ t, r.fs.length < 2 ^ 62) (hok : FormsOk t) : RetP Tryd.prog n_paradigm_words [slv p t.length cp] (fun R => TableAt R p t) (.int .i64 (checkL (twords t))) := by
  refine Fn.of S_paradigm_words mx [.p p, .i t.length, .i cp] rfl rfl fun c hp => .chk (by ((try simp only [evE, liE, letsOf, letU, snd]); (try simp only [cmE])); omega) ?_
  refine .loop (fun n us _ => ∃ (e : Int) (i : Nat), us = [.i e, .i i] ∧ n + i = t.length ∧ checkL (twords (t.take i)) = 0) t.length ⟨0, 0, rfl, rfl, rfl⟩ ?_
  rintro n _ m _ ⟨e, i, rfl, hn, hc⟩
  refine .env (by (try simp only [liE, letsOf, letU, snd, List.append_nil]); rfl) (.ite (fun h1 => ?_) (fun h1 => .ret rfl ?_)) <;> ((try simp only [evE, liE, letsOf, letU, snd] at h1); (try simp only [cmE] at h1))
  · have hi : i < t.length := by omega
    have hfi := hf _ (List.getElem_mem hi)
    have hoi := hok _ (List.getElem_mem hi)
    have hpi := hp.2 _ (List.getElem_mem hi)
    refine .loadLD t i hi (fun g => hp.1.mono g.R) (.env (by (try simp only [liE, letsOf, letU, snd, List.append_nil]); rfl) (.chk (by ((try simp only [evE, liE, letsOf, letU, snd]); (try simp only [cmE])); omega) ?_))
    refine .loop (fun n us _ => ∃ (e : Int) (k : Nat), us = [.i e, .i k] ∧ n + k = t[i].fs.length ∧ checkL (twords (t.take i) ++ (t[i].fs.take k).map (·.w.w)) = 0) t[i].fs.length ⟨e, 0, rfl, rfl, by simpa using hc⟩ ?_
    rintro n1 _ m _ ⟨e, k, rfl, hn1, hc1⟩
    refine .env (by (try simp only [liE, letsOf, letU, snd, List.append_nil]); rfl) (.ite (fun h2 => ?_) (fun h2 => .again rfl ⟨n - 1, by omega, e, i + 1, ?_, by omega, ?_⟩)) <;> ((try simp only [evE, liE, letsOf, letU, snd] at h2); (try simp only [cmE] at h2))
    · have hk : k < t[i].fs.length := by omega
      refine .loadFD t[i].fs k hk (fun g => hpi.1.mono g.R) (.env (by (try simp only [liE, letsOf, letU, snd, List.append_nil]); rfl) (.alloc fun b0 => .callV (c_wordCheck t[i].fs[k].w.p t[i].fs[k].w.cap t[i].fs[k].w.w (hoi _ (List.getElem_mem hk)).1) (fun g => (hpi.2 _ (List.getElem_mem hk)).mono g.R) (.env (by (try simp only [liE, letsOf, letU, snd, List.append_nil]); rfl) (.ite (fun h3 => .ret rfl ?_) (fun h3 => .again rfl ⟨n1 - 1, by omega, e, k + 1, ?_, by omega, ?_⟩)))))
      · ((try simp only [evE, liE, letsOf, letU, snd] at h3); (try simp only [cmE] at h3))
        rw [twords_split hi hk, ← List.append_assoc, checkL_append, if_neg (fun h => h hc1), checkL_cons, if_pos h3]; rfl
      · (simp only [evE, liE, letsOf, letU, snd, Sh.uss, Sh.us, atAddr, map_add0, List.append_nil]); rw [add_i64 k (by omega)]
      · ((try simp only [evE, liE, letsOf, letU, snd] at h3); (try simp only [cmE] at h3))
        rw [List.take_succ_eq_append_getElem hk, List.map_append, ← List.append_assoc, checkL_append, if_neg (fun h => h hc1)]
        simp [checkL_cons, h3, checkL]
    · (simp only [evE, liE, letsOf, letU, snd, Sh.uss, Sh.us, atAddr, map_add0, List.append_nil]); rw [add_i64 i (by omega)]
    · rw [twords_snoc hi]
      rw [List.take_of_length_le (show t[i].fs.length ≤ k by omega)] at hc1
      exact hc1
  · rw [List.take_of_length_le (by omega)] at hc
    rw [hc]; rfl
theorem c_Check (p : Option Addr) (cp : Nat) (t : List LD) (hl : t.length < 2 ^ 62) (hf : ∀ r ∈ t, r.fs.length < 2 ^ 62) (hok : FormsOk t) : RetP Tryd.prog n_paradigm_Check [slv p t.length cp] (fun R => TableAt R p t) (.int .i64 (checkT t)) := by
  refine Fn.of S_paradigm_Check mx [.p p, .i t.length, .i cp] rfl rfl fun c hp => .callV (c_shape p cp t hl hf) (fun g => hp.mono g.R) (.env (by (try simp only [liE, letsOf, letU, snd, List.append_nil]); rfl) (.ite (fun h1 => .ret rfl ?_) (fun h1 => .callV (c_pwords p cp t hl hf hok) (fun g => hp.mono g.R) (.ret rfl ?_)))) <;> ((try simp only [evE, liE, letsOf, letU, snd] at h1); (try simp only [cmE] at h1))
  · unfold checkT; rw [if_pos h1]; rfl
  · unfold checkT; rw [if_neg (by simp [h1])]; rfl
set_option maxHeartbeats 1000000 in
theorem c_refShape (p : Option Addr) (cp : Nat) (t : List LD) (hl : t.length < 2 ^ 62) (hf : ∀ r ∈ t, r.fs.length < 2 ^ 62) : RetP Tryd.prog n_ref29_shape [slv p t.length cp] (fun R => TableAt R p t) (.int .i64 (tshape t)) := by
  refine Fn.of S_ref29_shape mx [.p p, .i t.length, .i cp] rfl rfl fun c hp => .chk (by ((try simp only [evE, liE, letsOf, letU, snd]); (try simp only [cmE])); omega) (.ite (fun h1 => .ret rfl ?_) (fun h1 => ?_)) <;> ((try simp only [evE, liE, letsOf, letU, snd] at h1); (try simp only [cmE] at h1))
  · rw [tshape_12 (.inl (by omega))]; rfl
  refine .loop (fun n us _ => ∃ (e : Int) (i : Nat), us = [.i e, .i i] ∧ n + i = t.length ∧ ∀ k (hk : k < t.length), k < i → wide t[k] = false) t.length ⟨0, 0, rfl, rfl, fun i hi h => by omega⟩ ?_
  rintro n _ m _ ⟨e, i, rfl, hn, hb⟩
  refine .env (by (try simp only [liE, letsOf, letU, snd, List.append_nil]); rfl) (.chk (by ((try simp only [evE, liE, letsOf, letU, snd]); (try simp only [cmE])); omega) (.ite (fun h2 => ?_) (fun h2 => ?_))) <;> ((try simp only [evE, liE, letsOf, letU, snd] at h2); (try simp only [cmE] at h2))
  · have hi : i < t.length := by omega
    refine .loadLD t i hi (fun g => hp.1.mono g.R) (.env (by (try simp only [liE, letsOf, letU, snd, List.append_nil]); rfl) (.chk (by ((try simp only [evE, liE, letsOf, letU, snd]); (try simp only [cmE])); omega) (.ite (fun h3 => .ret rfl ?_) (fun h3 => .again rfl ⟨n - 1, by omega, e, i + 1, ?_, by omega, fun k hk hki => ?_⟩)))) <;> ((try simp only [evE, liE, letsOf, letU, snd] at h3); (try simp only [cmE] at h3))
    · rw [tshape_12 (.inr (any_true hi (by simp [wide]; omega)))]; rfl
    · (simp only [evE, liE, letsOf, letU, snd, Sh.uss, Sh.us, atAddr, map_add0, List.append_nil]); rw [add_i64 i (by omega)]
    · rcases Nat.lt_or_ge k i with h | h
      · exact hb k hk h
      · have : k = i := by omega
        subst this
        simp [wide]; omega
  have h2' : t.any wide = false := any_false fun k hk => hb k hk (by omega)
  clear hb
  refine .loop (fun n us _ => ∃ (e : Int) (i : Nat), us = [.i e, .i i] ∧ n + i = t.length ∧ ∀ k (hk : k < t.length), k < i → badRow ((t.head?.map (·.fs.length)).getD 0) t[k] = false) t.length ⟨e, 0, rfl, rfl, fun i hi h => by omega⟩ ?_
  rintro n2 _ m2 _ ⟨e2, i2, rfl, hn2, hb⟩
  refine .env (by (try simp only [liE, letsOf, letU, snd, List.append_nil]); rfl) (.chk (by ((try simp only [evE, liE, letsOf, letU, snd]); (try simp only [cmE])); omega) (.ite (fun h3 => ?_) (fun h3 => .ret rfl ?_))) <;> ((try simp only [evE, liE, letsOf, letU, snd] at h3); (try simp only [cmE] at h3))
  · have hi : i2 < t.length := by omega
    have h0 : 0 < t.length := by omega
    have hd := head_len h0
    have hfi := hf _ (List.getElem_mem hi)
    have hpi := hp.2 _ (List.getElem_mem hi)
    rw [hd] at hb
    refine .loadLD t i2 hi (fun g => hp.1.mono g.R) (.env (by (try simp only [liE, letsOf, letU, snd, List.append_nil]); rfl) (.chk (by ((try simp only [evE, liE, letsOf, letU, snd]); (try simp only [cmE])); omega) (.loadL0 t h0 (fun g => hp.1.mono g.R) (.env (by (try simp only [liE, letsOf, letU, snd, List.append_nil]); rfl) (.chk (by ((try simp only [evE, liE, letsOf, letU, snd]); (try simp only [cmE])); omega) (.ite (fun h4 => .ret rfl ?_) (fun h4 => ?_))))))) <;> ((try simp only [evE, liE, letsOf, letU, snd] at h4); (try simp only [cmE] at h4))
    · rw [tshape_2 (by omega) h2' (any_true hi (by rw [hd]; simp [badRow]; omega))]; rfl
    refine .loop (fun n us _ => ∃ (e : Int) (k : Nat), us = [.i e, .i k] ∧ n + k = t[i2].fs.length ∧ ∀ j (hj : j < t[i2].fs.length), j < k → blankF t[i2].fs[j] = false) t[i2].fs.length ⟨e2, 0, rfl, rfl, fun i hi h => by omega⟩ ?_
    rintro n3 _ m3 _ ⟨e3, k, rfl, hn3, hb3⟩
    refine .env (by (try simp only [liE, letsOf, letU, snd, List.append_nil]); rfl) (.loadLD t i2 hi (fun g => hp.1.mono g.R) (.env (by (try simp only [liE, letsOf, letU, snd, List.append_nil]); rfl) (.chk (by ((try simp only [evE, liE, letsOf, letU, snd]); (try simp only [cmE])); omega) (.ite (fun h5 => ?_) (fun h5 => .again rfl ⟨n2 - 1, by omega, e3, i2 + 1, ?_, by omega, fun j hj hji => ?_⟩))))) <;> ((try simp only [evE, liE, letsOf, letU, snd] at h5); (try simp only [cmE] at h5))
    · have hk : k < t[i2].fs.length := by omega
      refine .loadLD t i2 hi (fun g => hp.1.mono g.R) (.env (by (try simp only [liE, letsOf, letU, snd, List.append_nil]); rfl) (.loadHas t[i2].fs k hk (fun g => hpi.1.mono g.R) (.env (by (try simp only [liE, letsOf, letU, snd, List.append_nil]); rfl) (.ite (fun h6 => ?_) (fun h6 => .again rfl ⟨n3 - 1, by omega, e3, k + 1, ?_, by omega, fun j hj hjk => ?_⟩)))))
      · replace h6 : (!t[i2].fs[k].has) = true := h6
        refine .loadLD t i2 hi (fun g => hp.1.mono g.R) (.env (by (try simp only [liE, letsOf, letU, snd, List.append_nil]); rfl) (.loadFW t[i2].fs k hk (fun g => hpi.1.mono g.R) (.env (by (try simp only [liE, letsOf, letU, snd, List.append_nil]); rfl) (.chk (by ((try simp only [evE, liE, letsOf, letU, snd]); (try simp only [cmE])); omega) (.ite (fun h7 => .ret rfl ?_) (fun h7 => .again rfl ⟨n3 - 1, by omega, e3, k + 1, ?_, by omega, fun j hj hjk => ?_⟩)))))) <;> ((try simp only [evE, liE, letsOf, letU, snd] at h7); (try simp only [cmE] at h7))
        · have hbl : blankF t[i2].fs[k] = true := by unfold blankF; rw [h6]; simp; omega
          rw [tshape_2 (by omega) h2' (any_true hi (by rw [hd]; unfold badRow; rw [any_true hk hbl]; simp))]; rfl
        · (simp only [evE, liE, letsOf, letU, snd, Sh.uss, Sh.us, atAddr, map_add0, List.append_nil]); rw [add_i64 k (by omega)]
        · rcases Nat.lt_or_ge j k with h | h
          · exact hb3 j hj h
          · have : j = k := by omega
            subst this
            have h8 : decide (0 < t[i2].fs[j].w.w.length) = false := decide_eq_false (by omega)
            unfold blankF; rw [h8, Bool.and_false]
      · (simp only [evE, liE, letsOf, letU, snd, Sh.uss, Sh.us, atAddr, map_add0, List.append_nil]); rw [add_i64 k (by omega)]
      · replace h6 : (!t[i2].fs[k].has) = false := h6
        rcases Nat.lt_or_ge j k with h | h
        · exact hb3 j hj h
        · have : j = k := by omega
          subst this
          unfold blankF; rw [h6]; rfl
    · (simp only [evE, liE, letsOf, letU, snd, Sh.uss, Sh.us, atAddr, map_add0, List.append_nil]); rw [add_i64 i2 (by omega)]
    · rcases Nat.lt_or_ge j i2 with h | h
      · rw [hd]; exact hb j hj h
      · have : j = i2 := by omega
        subst this
        rw [hd]; unfold badRow; rw [any_false fun k hk => hb3 k hk (by omega)]; simp; omega
  · rw [tshape_0 (by omega) h2' (any_false fun k hk => hb k hk (by omega))]; rfl
theorem c_refPwords (p : Option Addr) (cp : Nat) (t : List LD) (hl : t.length < 2 ^ 62) (hf : ∀ r ∈ t, r.fs.length < 2 ^ 62) (hok : FormsOk t) : RetP Tryd.prog n_ref29_words [slv p t.length cp] (fun R => TableAt R p t) (.int .i64 (checkL (twords t))) := by
  refine Fn.of S_ref29_words mx [.p p, .i t.length, .i cp] rfl rfl fun c hp => ?_
  refine .loop (fun n us _ => ∃ (e : Int) (i : Nat), us = [.i e, .i i] ∧ n + i = t.length ∧ checkL (twords (t.take i)) = 0) t.length ⟨0, 0, rfl, rfl, rfl⟩ ?_
  rintro n _ m _ ⟨e, i, rfl, hn, hc⟩
  refine .env (by (try simp only [liE, letsOf, letU, snd, List.append_nil]); rfl) (.chk (by ((try simp only [evE, liE, letsOf, letU, snd]); (try simp only [cmE])); omega) (.ite (fun h1 => ?_) (fun h1 => .ret rfl ?_))) <;> ((try simp only [evE, liE, letsOf, letU, snd] at h1); (try simp only [cmE] at h1))
  · have hi : i < t.length := by omega
    have hfi := hf _ (List.getElem_mem hi)
    have hoi := hok _ (List.getElem_mem hi)
    have hpi := hp.2 _ (List.getElem_mem hi)
    refine .loop (fun n us _ => ∃ (e : Int) (k : Nat), us = [.i e, .i k] ∧ n + k = t[i].fs.length ∧ checkL (twords (t.take i) ++ (t[i].fs.take k).map (·.w.w)) = 0) t[i].fs.length ⟨e, 0, rfl, rfl, by simpa using hc⟩ ?_
    rintro n1 _ m _ ⟨e, k, rfl, hn1, hc1⟩
    refine .env (by (try simp only [liE, letsOf, letU, snd, List.append_nil]); rfl) (.loadLD t i hi (fun g => hp.1.mono g.R) (.env (by (try simp only [liE, letsOf, letU, snd, List.append_nil]); rfl) (.chk (by ((try simp only [evE, liE, letsOf, letU, snd]); (try simp only [cmE])); omega) (.ite (fun h2 => ?_) (fun h2 => .again rfl ⟨n - 1, by omega, e, i + 1, ?_, by omega, ?_⟩))))) <;> ((try simp only [evE, liE, letsOf, letU, snd] at h2); (try simp only [cmE] at h2))
    · have hk : k < t[i].fs.length := by omega
      refine .loadLD t i hi (fun g => hp.1.mono g.R) (.env (by (try simp only [liE, letsOf, letU, snd, List.append_nil]); rfl) (.loadFW t[i].fs k hk (fun g => hpi.1.mono g.R) (.env (by (try simp only [liE, letsOf, letU, snd, List.append_nil]); rfl) (.callV (c_ref02Check t[i].fs[k].w.p t[i].fs[k].w.cap t[i].fs[k].w.w (hoi _ (List.getElem_mem hk)).1) (fun g => (hpi.2 _ (List.getElem_mem hk)).mono g.R) (.env (by (try simp only [liE, letsOf, letU, snd, List.append_nil]); rfl) (.ite (fun h3 => .ret rfl ?_) (fun h3 => .again rfl ⟨n1 - 1, by omega, e, k + 1, ?_, by omega, ?_⟩)))))))
      · ((try simp only [evE, liE, letsOf, letU, snd] at h3); (try simp only [cmE] at h3))
        rw [twords_split hi hk, ← List.append_assoc, checkL_append, if_neg (fun h => h hc1), checkL_cons, if_pos h3]; rfl
      · (simp only [evE, liE, letsOf, letU, snd, Sh.uss, Sh.us, atAddr, map_add0, List.append_nil]); rw [add_i64 k (by omega)]
      · ((try simp only [evE, liE, letsOf, letU, snd] at h3); (try simp only [cmE] at h3))
        rw [List.take_succ_eq_append_getElem hk, List.map_append, ← List.append_assoc, checkL_append, if_neg (fun h => h hc1)]
        simp [checkL_cons, h3, checkL]
    · (simp only [evE, liE, letsOf, letU, snd, Sh.uss, Sh.us, atAddr, map_add0, List.append_nil]); rw [add_i64 i (by omega)]
    · rw [twords_snoc hi]
      rw [List.take_of_length_le (show t[i].fs.length ≤ k by omega)] at hc1
      exact hc1
  · rw [List.take_of_length_le (by omega)] at hc
    rw [hc]; rfl
theorem c_ref29Check (p : Option Addr) (cp : Nat) (t : List LD) (hl : t.length < 2 ^ 62) (hf : ∀ r ∈ t, r.fs.length < 2 ^ 62) (hok : FormsOk t) : RetP Tryd.prog n_ref29_Check [slv p t.length cp] (fun R => TableAt R p t) (.int .i64 (checkT t)) := by
  refine Fn.of S_ref29_Check mx [.p p, .i t.length, .i cp] rfl rfl fun c hp => .callV (c_refShape p cp t hl hf) (fun g => hp.mono g.R) (.env (by (try simp only [liE, letsOf, letU, snd, List.append_nil]); rfl) (.ite (fun h1 => .ret rfl ?_) (fun h1 => .callV (c_refPwords p cp t hl hf hok) (fun g => hp.mono g.R) (.ret rfl ?_)))) <;> ((try simp only [evE, liE, letsOf, letU, snd] at h1); (try simp only [cmE] at h1))
  · unfold checkT; rw [if_pos h1]; rfl
  · unfold checkT; rw [if_neg (by simp [h1])]; rfl
end Go.Proofs.YtpbbnmjkbfbelaaDoor
