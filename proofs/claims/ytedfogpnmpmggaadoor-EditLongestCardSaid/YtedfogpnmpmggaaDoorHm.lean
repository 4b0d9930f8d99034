/- The reference's Longest, and EditLongest. -/
import Derived.Test.YtedfogpnmpmggaaDoorHj
set_option linter.unusedSimpArgs false
set_option linter.unusedVariables false
namespace Go.Sy
open Go Go.RowKit
theorem LA_max {a b : List Snd} {i j : Nat} (hi : i < a.length) (hj : j < b.length) : LA a b i j = if a[i] = b[j] ∧ 1 + LA a b (i + 1) (j + 1) > max (LA a b (i + 1) j) (LA a b i (j + 1)) then 1 + LA a b (i + 1) (j + 1) else max (LA a b (i + 1) j) (LA a b i (j + 1)) := by
  have h := LA_in hi hj
  by_cases e : a[i] = b[j]
  · rw [if_pos e] at h
    have m1 : LA a b (i + 1) j ≤ 1 + LA a b (i + 1) (j + 1) := by
      unfold LA
      rw [List.drop_eq_getElem_cons hj]
      exact ((lcs_more _ _).2 _).2
    have m2 : LA a b i (j + 1) ≤ 1 + LA a b (i + 1) (j + 1) := by
      unfold LA
      rw [List.drop_eq_getElem_cons hi]
      exact ((lcs_more _ _).1 _).2
    by_cases h2 : 1 + LA a b (i + 1) (j + 1) > max (LA a b (i + 1) j) (LA a b i (j + 1))
    · rw [if_pos ⟨e, h2⟩, h]
    · rw [if_neg (fun h' => h2 h'.2), h]; omega
  · rw [if_neg e] at h
    rw [if_neg (fun h' => e h'.1), h]
end Go.Sy
namespace Go.Proofs.YtedfogpnmpmggaaDoor
open Go Go.Sy Go.RowKit
theorem int3 : (Tryd.prog.info? 3).map (fun i => (i.zero, i.size, i.bytes)) = some (some (.int .i64 0), 1, 8) := by kernel_rfl
theorem int98 : (Tryd.prog.info? 98).map (fun i => (i.zero, i.size, i.bytes)) = some (some (.slice none 0 0), 1, 24) := by kernel_rfl
set_option maxHeartbeats 1000000 in
theorem c_refLongest (p q : Option Addr) (capp capq : Nat) (a b : List Snd) (ha : Wok a) (hb : Wok b) : RetP Tryd.prog n_ref17_Longest [slv p a.length capp, slv q b.length capq] (fun R => WordAt R p a ∧ WordAt R q b) (.tuple #[.int .i64 (longE a b).1, .int .i64 (longE a b).2]) := by
  refine Fn.of S_ref17_Longest mx [.p p, .i a.length, .i capp, .p q, .i b.length, .i capq] rfl rfl fun c hp => .alloc fun b0 => ?_
  refine .callV (c_ref17Check none 0 [] 0 (some ⟨b0, 0, none⟩) 2 [⟨p, capp, a⟩, ⟨q, capq, b⟩] (by simp [ha, hb]) (by simp)) (fun g => ⟨fun i x hx => by simp at hx, g.cells (j := 0) rfl rfl rfl, ?_⟩) (.ite (fun h1 => .ret rfl ?_) (fun h1 => ?_))
  · simp only [List.mem_cons, List.not_mem_nil, or_false]
    rintro x (rfl | rfl)
    · exact hp.1.mono g.R
    · exact hp.2.mono g.R
  · ((try simp only [evE, liE, letsOf, letU, snd] at h1); (try simp only [cmE] at h1)); rw [checkE_nil] at h1
    replace h1 : checkL [a, b] ≠ 0 := h1
    ((try simp only [evE, liE, letsOf, letU, snd]); (try simp only [cmE])); simp only [longE]; rw [if_pos h1, checkE_nil]; rfl
  ((try simp only [evE, liE, letsOf, letU, snd] at h1); (try simp only [cmE] at h1))
  rw [checkE_nil] at h1 ⊢
  replace h1 : checkL [a, b] = 0 := h1
  have hl : longE a b = ((lcs a b : Int), 0) := by unfold longE; rw [if_neg (by simpa using h1)]
  obtain ⟨la, va⟩ := checkW_zero (checkL_two h1).1
  obtain ⟨lb, vb⟩ := checkW_zero (checkL_two h1).2
  rw [show checkL (List.map (fun x : WD => x.w) [⟨p, capp, a⟩, ⟨q, capq, b⟩]) = 0 from h1]
  have ea := add_i64 a.length (by omega)
  have eb := add_i64 b.length (by omega)
  refine .env (by (try simp only [liE, letsOf, letU, snd, List.append_nil]); rfl) (.chk (by ((try simp only [evE, liE, letsOf, letU, snd]); (try simp only [cmE])); omega) (.make (a.length + 1) Tryd.underlying97 int98 rfl (by omega) (by simp [maxLen]; omega) (fun g9 hg9 hrow => ?_) (by show Value.int _ (ar .add .i64 (a.length : Int) 1) = _; rw [ea]) (by show Value.int _ (ar .add .i64 (a.length : Int) 1) = _; rw [ea])))
  revert hrow
  generalize Mem.upd _ g9 _ = m1
  intro hrow
  have hT : Tab m1 98 3 .i64 (some ⟨g9, 0, none⟩) (a.length + 1) (List.replicate (a.length + 1) ⟨none, 0, []⟩) := ⟨by rw [List.length_replicate, List.map_replicate]; exact hrow, fun r hr => by rw [(List.mem_replicate.1 hr).2]; exact Row.nil _ _ _, (fun i j hi hj g _ h => by rw [List.getElem_replicate] at h; cases h), by decide⟩
  refine .env (by (try simp only [liE, letsOf, letU, snd, List.append_nil]); rfl) (.chk (by ((try simp only [evE, liE, letsOf, letU, snd]); (try simp only [cmE])); omega) (.loop (fun n us m => ∃ rs : List RD, us = [.i ((n : Int) - 1)] ∧ n ≤ a.length + 1 ∧ rs.length = a.length + 1 ∧ Tab m 98 3 .i64 (some ⟨g9, 0, none⟩) (a.length + 1) rs ∧ ∀ k, n ≤ k → k ≤ a.length → ∃ r, rs[k]? = some r ∧ r.v.length = b.length + 1 ∧ ∀ y, y ≤ b.length → r.v[y]? = some (LA a b k y : Int)) (a.length + 1)
    ⟨_, ?_, Nat.le_refl _, by simp, hT, fun k h1 h2 => by omega⟩ ?_))
  · (simp only [evE, liE, letsOf, letU, snd, Sh.uss, Sh.us, atAddr, map_add0, List.append_nil]); rw [show ((a.length + 1 : Nat) : Int) - 1 = a.length by omega]
  clear hT hrow
  rintro n _ m _ ⟨rs, rfl, hn, hrl, hT, hhi⟩
  refine .ite (fun h1 => ?_) (fun h1 => ?_) <;> ((try simp only [evE, liE, letsOf, letU, snd] at h1); (try simp only [cmE] at h1))
  · obtain ⟨i, rfl⟩ : ∃ i, n = i + 1 := ⟨n - 1, by omega⟩
    have ei := add_i64 i (by omega)
    have hTk : ∀ g' o, m g' = none → Tab (m.upd g' o) 98 3 .i64 (some ⟨g9, 0, none⟩) (a.length + 1) rs := fun g' o hg => hT.keep fun b hb => Mem.upd_other _ _ fun e => hb (e ▸ hg)
    refine .env (by (try simp only [liE, letsOf, letU, snd, List.append_nil]); rw [show ((i + 1 : Nat) : Int) - 1 = (i : Int) by omega]) (.chk (by ((try simp only [evE, liE, letsOf, letU, snd]); (try simp only [cmE])); omega) (.make (b.length + 1) Tryd.underlying98 int3 rfl (by omega) (by simp [maxLen]; omega) (fun g8 hg8 hrow8 => ?_) (by show Value.int _ (ar .add .i64 (b.length : Int) 1) = _; rw [eb]) (by show Value.int _ (ar .add .i64 (b.length : Int) 1) = _; rw [eb])))
    have hnew : ∀ (k : Nat) (hk : k < rs.length) (b' : Nat), rs[k].p = some ⟨b', 0, none⟩ → (some ⟨g8, 0, none⟩ : Option Addr) ≠ some ⟨b', 0, none⟩ := fun k hk b' h1 h2 => by
      cases h2
      rcases (hT.inn _ (List.getElem_mem hk)).2 with ⟨e, _⟩ | ⟨g', cur, e, e2, _⟩
      · rw [e] at h1; cases h1
      · rw [e] at h1; cases h1; rw [hg8] at e2; cases e2
    replace hT := hTk g8 (.cells (madeCells #[.int .i64 0] (b.length + 1)) 3 (0, 0)) hg8
    refine .env (by (try simp only [liE, letsOf, letU, snd, List.append_nil]); rfl) (.storeR i (by omega : i < rs.length) hT.out rfl rfl (by show ((a.length + 1 : Nat) : Int) = _; rw [hrl]) (fun m2 g2 hg2 ho2 hs2 => .chk (by ((try simp only [evE, liE, letsOf, letU, snd]); (try simp only [cmE])); omega) ?_))
    obtain rfl : g9 = g2 := by cases hg2; rfl
    have hT2 := hT.setRow (r := ⟨some ⟨g8, 0, none⟩, b.length + 1, List.replicate (b.length + 1) 0⟩) (by omega : i < rs.length) rfl (by rw [show RD.s ⟨some ⟨g8, 0, none⟩, b.length + 1, List.replicate (b.length + 1) 0⟩ = slv (some ⟨g8, 0, none⟩) (b.length + 1) (b.length + 1) by simp [RD.s]]; exact ho2) hs2 (by rw [List.length_replicate, List.map_replicate]; exact hrow8) hnew
    clear hT ho2 hrow8 hs2 hnew hTk
    refine .env (by (try simp only [liE, letsOf, letU, snd, List.append_nil]); rfl) (.loop (fun n' us m' => ∃ vs : List Int, us = [.i ((n' : Int) - 1)] ∧ n' ≤ b.length ∧ vs.length = b.length + 1 ∧ Tab m' 98 3 .i64 (some ⟨g9, 0, none⟩) (a.length + 1) (rs.set i ⟨some ⟨g8, 0, none⟩, b.length + 1, vs⟩) ∧ (∀ j, n' ≤ j → j ≤ b.length → vs[j]? = some (LA a b i j : Int)) ∧ (i = a.length → vs = List.replicate (b.length + 1) 0)) b.length
      ⟨List.replicate (b.length + 1) 0, ?_, Nat.le_refl _, by simp, hT2, fun j h1 h2 => ?_, fun _ => rfl⟩ ?_)
    · (simp only [evE, liE, letsOf, letU, snd, Sh.uss, Sh.us, atAddr, map_add0, List.append_nil]); rw [subI (by omega) (by omega)]
    · rw [LA_out (.inr (by omega)), List.getElem?_replicate, if_pos (by omega)]; rfl
    clear hT2
    rintro n' _ m' _ ⟨vs, rfl, hn', hvl, hT, hvs, hvz⟩
    have hlen : (rs.set i ⟨some ⟨g8, 0, none⟩, b.length + 1, vs⟩).length = a.length + 1 := by rw [List.length_set]; exact hrl
    refine .join (fun us mm => m' = mm ∧ ∃ x : Bool, us = [.b x] ∧ (x = true ↔ n' ≠ 0 ∧ i < a.length)) (.ite (fun h3 => .chk (by ((try simp only [evE, liE, letsOf, letU, snd]); (try simp only [cmE])); omega) (.again rfl ⟨rfl, cm .lss (i : Int) (a.length : Int), rfl, ?_⟩)) (fun h3 => .again rfl ⟨rfl, false, rfl, ?_⟩)) ?_
    · ((try simp only [evE, liE, letsOf, letU, snd] at h3); (try simp only [cmE] at h3)); simp [cm]; omega
    · ((try simp only [evE, liE, letsOf, letU, snd] at h3); (try simp only [cmE] at h3)); simp; omega
    rintro _ _ _ ⟨rfl, x1, rfl, hx1⟩
    refine .env (by (try simp only [liE, letsOf, letU, snd, List.append_nil]); rfl) (.ite (fun h2 => ?_) (fun h2 => .again rfl ⟨i, by omega, rs.set i ⟨some ⟨g8, 0, none⟩, b.length + 1, vs⟩, ?_, by omega, hlen, hT, fun k hk1 hk2 => ?_⟩))
    · replace h2 : x1 = true := h2
      obtain ⟨hn0, hi⟩ := hx1.1 h2
      obtain ⟨j, rfl⟩ : ∃ j, n' = j + 1 := ⟨n' - 1, by omega⟩
      have hj : j < b.length := by omega
      have ej := add_i64 j (by omega)
      clear h2 hx1 hn0 hvz
      have hnx : ∀ y, y ≤ b.length → ∃ r, (rs.set i ⟨some ⟨g8, 0, none⟩, b.length + 1, vs⟩)[i + 1]? = some r ∧ r.v[y]? = some (LA a b (i + 1) y : Int) := fun y hy => by
        obtain ⟨r, hr, _, hv⟩ := hhi (i + 1) (by omega) (by omega)
        exact ⟨r, by rw [List.getElem?_set_ne (by omega)]; exact hr, hv y hy⟩
      obtain ⟨r0, hr0, hv0⟩ := hnx j (by omega)
      obtain ⟨r1, hr1, hv1⟩ := hnx (j + 1) (by omega)
      obtain rfl : r0 = r1 := by rw [hr0] at hr1; exact Option.some.inj hr1
      clear hnx hr1
      rw [List.getElem?_set_ne (by omega)] at hr0
      have hrow : ∀ ws : List Int, (rs.set i ⟨some ⟨g8, 0, none⟩, b.length + 1, ws⟩)[i]? = some ⟨some ⟨g8, 0, none⟩, b.length + 1, ws⟩ := fun ws => List.getElem?_set_self (by omega)
      have hnx : ∀ ws : List Int, (rs.set i ⟨some ⟨g8, 0, none⟩, b.length + 1, ws⟩)[i + 1]? = some r0 := fun ws => by rw [List.getElem?_set_ne (by omega)]; exact hr0
      have hle : ∀ ws : List Int, (rs.set i ⟨some ⟨g8, 0, none⟩, b.length + 1, ws⟩).length = a.length + 1 := fun ws => by rw [List.length_set]; exact hrl
      have b1 := LA_le a b (i + 1) j
      have b2 := LA_le a b i (j + 1)
      have b3 := LA_le a b (i + 1) (j + 1)
      refine .env (by (try simp only [liE, letsOf, letU, snd, List.append_nil]); rw [show ((j + 1 : Nat) : Int) - 1 = (j : Int) by omega]) (.loadRow hT i _ (hrow vs) ?_ rfl rfl (by rw [hlen]; rfl))
      refine .env (by (try simp only [liE, letsOf, letU, snd, List.append_nil]); rfl) (.loadT hT i (j + 1) _ _ (hrow vs) (hvs (j + 1) (by omega) (by omega)) ?_ rfl rfl (by rw [hlen]; rfl) rfl (by show ar .add .i64 _ _ = _; exact ej) rfl)
      refine .env (by (try simp only [liE, letsOf, letU, snd, List.append_nil]); rfl) (.storeT hT i j _ (LA a b i (j + 1) : Int) (hrow vs) (by show j < vs.length; omega) (fun m2 hT hs => ?_) rfl rfl rfl rfl)
      rw [List.set_set] at hT
      simp only [] at hT
      clear hs
      refine .loadT hT (i + 1) j r0 _ (hnx _) hv0 ?_ rfl (by show ar .add .i64 _ _ = _; exact ei) (by rw [hle]; rfl) rfl rfl rfl
      refine .env (by (try simp only [liE, letsOf, letU, snd, List.append_nil]); rfl) (.loadT hT i j _ (LA a b i (j + 1) : Int) (hrow _) (by show (vs.set j _)[j]? = _; rw [List.getElem?_set_self (by omega)]) ?_ rfl rfl (by rw [hle]; rfl) rfl rfl rfl)
      have hvs' : ∀ (v : Int) (y : Nat), j < y → y ≤ b.length → (vs.set j v)[y]? = some (LA a b i y : Int) := fun v y h1 h2 => by rw [List.getElem?_set_ne (by omega)]; exact hvs y (by omega) h2
      refine .env (by (try simp only [liE, letsOf, letU, snd, List.append_nil]); rfl) (.join (fun us mm => us = [] ∧ Tab mm 98 3 .i64 (some ⟨g9, 0, none⟩) (a.length + 1) (rs.set i ⟨some ⟨g8, 0, none⟩, b.length + 1, vs.set j (max (LA a b (i + 1) j) (LA a b i (j + 1)) : Nat)⟩)) (.ite (fun h3 => ?_) (fun h3 => .again rfl ⟨rfl, ?_⟩)) ?_)
      · ((try simp only [evE, liE, letsOf, letU, snd] at h3); (try simp only [cmE] at h3))
        refine .loadRow hT i _ (hrow _) ?_ rfl rfl (by rw [hle]; rfl)
        refine .env (by (try simp only [liE, letsOf, letU, snd, List.append_nil]); rfl) (.loadT hT (i + 1) j r0 _ (hnx _) hv0 ?_ rfl (by show ar .add .i64 _ _ = _; exact ei) (by rw [hle]; rfl) rfl rfl rfl)
        refine .env (by (try simp only [liE, letsOf, letU, snd, List.append_nil]); rfl) (.storeT hT i j _ (LA a b (i + 1) j : Int) (hrow _) (by show j < (vs.set j _).length; rw [List.length_set]; omega) (fun m3 hT hs => .again rfl ⟨rfl, ?_⟩) rfl rfl rfl rfl)
        rw [List.set_set] at hT
        simp only [List.set_set] at hT
        rw [show max (LA a b (i + 1) j) (LA a b i (j + 1)) = LA a b (i + 1) j by omega]; exact hT
      · ((try simp only [evE, liE, letsOf, letU, snd] at h3); (try simp only [cmE] at h3))
        rw [show max (LA a b (i + 1) j) (LA a b i (j + 1)) = LA a b i (j + 1) by omega]; exact hT
      clear hT
      rintro _ m4 _ ⟨rfl, hT⟩
      refine .env (by (try simp only [liE, letsOf, letU, snd, List.append_nil]); rfl) (.join (fun us mm => m4 = mm ∧ ∃ x : Bool, us = [.b x] ∧ (x = true ↔ a[i] = b[j] ∧ 1 + LA a b (i + 1) (j + 1) > max (LA a b (i + 1) j) (LA a b i (j + 1)))) (.loadW a i hi (fun g => hp.1.mono g.R) (.env (by (try simp only [liE, letsOf, letU, snd, List.append_nil]); rfl) (.loadW b j hj (fun g => hp.2.mono g.R) (.env (by (try simp only [liE, letsOf, letU, snd, List.append_nil]); rfl) (.ite (fun h4 => ?_) (fun h4 => .again rfl ⟨rfl, false, rfl, ?_⟩)))))) ?_)
      · ((try simp only [evE, liE, letsOf, letU, snd] at h4); (try simp only [cmE] at h4))
        have heq := snd_eq.1 h4
        refine .loadT hT (i + 1) (j + 1) r0 _ (hnx _) hv1 ?_ rfl (by show ar .add .i64 _ _ = _; exact ei) (by rw [hle]; rfl) rfl (by show ar .add .i64 _ _ = _; exact ej) rfl
        refine .env (by (try simp only [liE, letsOf, letU, snd, List.append_nil]); rfl) (.loadT hT i j _ (max (LA a b (i + 1) j) (LA a b i (j + 1)) : Nat) (hrow _) (by show (vs.set j _)[j]? = _; rw [List.getElem?_set_self (by omega)]) (.again rfl ⟨rfl, cm .gtr (1 + (LA a b (i + 1) (j + 1) : Int)) (max (LA a b (i + 1) j) (LA a b i (j + 1)) : Nat), ?_, ?_⟩) rfl rfl (by rw [hle]; rfl) rfl rfl rfl)
        · (simp only [evE, liE, letsOf, letU, snd, Sh.uss, Sh.us, atAddr, map_add0, List.append_nil]); rw [addI (by omega) (by omega)]
        · simp only [cm, decide_eq_true_eq, heq, true_and]; omega
      · ((try simp only [evE, liE, letsOf, letU, snd] at h4); (try simp only [cmE] at h4))
        have : ¬ a[i] = b[j] := fun e => by have := snd_eq.2 e; simp [this.1, this.2] at h4
        simp [this]
      rintro _ _ _ ⟨rfl, x2, rfl, hx2⟩
      have hmax := LA_max hi hj
      refine .env (by (try simp only [liE, letsOf, letU, snd, List.append_nil]); rfl) (.join (fun us mm => us = [] ∧ Tab mm 98 3 .i64 (some ⟨g9, 0, none⟩) (a.length + 1) (rs.set i ⟨some ⟨g8, 0, none⟩, b.length + 1, vs.set j (LA a b i j : Int)⟩)) (.ite (fun h3 => ?_) (fun h3 => .again rfl ⟨rfl, ?_⟩)) ?_)
      · replace h3 : x2 = true := h3
        rw [if_pos (hx2.1 h3)] at hmax
        refine .loadRow hT i _ (hrow _) ?_ rfl rfl (by rw [hle]; rfl)
        refine .env (by (try simp only [liE, letsOf, letU, snd, List.append_nil]); rfl) (.loadT hT (i + 1) (j + 1) r0 _ (hnx _) hv1 ?_ rfl (by show ar .add .i64 _ _ = _; exact ei) (by rw [hle]; rfl) rfl (by show ar .add .i64 _ _ = _; exact ej) rfl)
        refine .env (by (try simp only [liE, letsOf, letU, snd, List.append_nil]); rfl) (.storeT hT i j _ (LA a b i j : Int) (hrow _) (by show j < (vs.set j _).length; rw [List.length_set]; omega) (fun m3 hT hs => .again rfl ⟨rfl, ?_⟩) rfl rfl rfl ?_)
        · rw [List.set_set] at hT
          simp only [List.set_set] at hT
          exact hT
        · show Value.int .i64 (ar .add .i64 1 (LA a b (i + 1) (j + 1) : Int)) = _
          rw [addI (by omega) (by omega), hmax]; simp
      · replace h3 : x2 = false := h3
        subst h3
        rw [if_neg (fun h => by cases hx2.2 h)] at hmax
        rw [hmax]; exact hT
      clear hT
      rintro _ m5 _ ⟨rfl, hT⟩
      refine .env (by (try simp only [liE, letsOf, letU, snd, List.append_nil]); rfl) (.again rfl ⟨j, by omega, vs.set j (LA a b i j : Int), ?_, by omega, by rw [List.length_set]; exact hvl, hT, fun y h1 h2 => ?_, fun h => by omega⟩)
      · (simp only [evE, liE, letsOf, letU, snd, Sh.uss, Sh.us, atAddr, map_add0, List.append_nil]); rw [subI (by omega) (by omega)]
      · rcases Nat.lt_or_ge j y with h | h
        · exact hvs' _ y h h2
        · obtain rfl : y = j := by omega
          rw [List.getElem?_set_self (by omega)]
    · (simp only [evE, liE, letsOf, letU, snd, Sh.uss, Sh.us, atAddr, map_add0, List.append_nil]); rw [subI (by omega) (by omega)]
    · replace h2 : x1 = false := h2
      subst h2
      have hx1 : ¬ (n' ≠ 0 ∧ i < a.length) := fun h => by cases hx1.2 h
      by_cases e : k = i
      · subst e
        refine ⟨_, List.getElem?_set_self (by omega), hvl, fun y hy => ?_⟩
        by_cases h0 : n' = 0
        · exact hvs y (by omega) hy
        · show vs[y]? = _
          rw [hvz (by omega), List.getElem?_replicate, if_pos (by omega), LA_out (.inl (by omega))]; rfl
      · obtain ⟨r, h3, h4⟩ := hhi k (by omega) hk2
        exact ⟨r, by rw [List.getElem?_set_ne (by omega)]; exact h3, h4⟩
  · obtain ⟨r, hr, hrl2, hrv⟩ := hhi 0 (by omega) (by omega)
    refine .first2 hT r _ hr (hrv 0 (by omega)) (.ret rfl ?_) rfl (by rw [hrl]; rfl) rfl rfl
    rw [hl]; rfl
theorem l_EditLongest (p q : Option Addr) (capp capq : Nat) (a b : List Snd) (ha : Wok a) (hb : Wok b) : RetP Tryd.prog n_law17_EditLongest [slv p a.length capp, slv q b.length capq] (fun R => WordAt R p a ∧ WordAt R q b ∧ TabOk R) (.bool true) := by
  refine Fn.of S_law17_EditLongest mx [.p p, .i a.length, .i capp, .p q, .i b.length, .i capq] rfl rfl fun c hp => ?_
  refine .chk (by ((try simp only [evE, liE, letsOf, letU, snd]); (try simp only [cmE])); omega) (.ite (fun h1 => .callV c_works17 (fun g => hp.2.2.mono g.R) (.ret rfl rfl)) (fun h1 => .chk (by ((try simp only [evE, liE, letsOf, letU, snd]); (try simp only [cmE])); omega) (.ite (fun h2 => .callV c_works17 (fun g => hp.2.2.mono g.R) (.ret rfl rfl)) (fun h2 => ?_))))
  refine .callV (c_longest p q capp capq a b ha hb) (fun g => ⟨hp.1.mono g.R, hp.2.1.mono g.R⟩) (.env (by (try simp only [liE, letsOf, letU, snd, List.append_nil]); rfl) (.callV (c_refLongest p q capp capq a b ha hb) (fun g => ⟨hp.1.mono g.R, hp.2.1.mono g.R⟩) (.env (by (try simp only [liE, letsOf, letU, snd, List.append_nil]); rfl) (.yes ?_ (.callV c_works17 (fun g => hp.2.2.mono g.R) (.ret rfl rfl))))))
  ((try simp only [evE, liE, letsOf, letU, snd]); (try simp only [cmE])) <;> simp
end Go.Proofs.YtedfogpnmpmggaaDoor
