/- The reference's Ways. -/
import Derived.Test.YtedfogpnmpmggaaDoorHn
set_option linter.unusedSimpArgs false
set_option linter.unusedVariables false
namespace Go.Sy
open Go Go.RowKit
section
variable {d : Snd → Snd → Int} {g : Int} {a b : List Snd} {i j : Nat}
theorem WA_le (i j : Nat) : WA d g a b i j ≤ 2 ^ 63 := way_le _ _
theorem sat_idem (x y : Nat) (h : x ≤ 2 ^ 63) : sat x y ≤ 2 ^ 63 := sat_le _ _
/-- What the three steps add up to. -/
theorem WA_sum {w0 w1 w2 w3 : Nat} (hi : i ≤ a.length) (hj : j ≤ b.length) (h0 : w0 = if i = a.length ∧ j = b.length then 1 else 0)
    (h1 : (∀ (hi : i < a.length) (hj : j < b.length), d a[i] b[j] + RA d g a b (i + 1) (j + 1) = RA d g a b i j → w1 = sat w0 (WA d g a b (i + 1) (j + 1))) ∧ ((∀ (hi : i < a.length) (hj : j < b.length), d a[i] b[j] + RA d g a b (i + 1) (j + 1) ≠ RA d g a b i j) → w1 = w0))
    (h2 : (i < a.length ∧ g + RA d g a b (i + 1) j = RA d g a b i j → w2 = sat w1 (WA d g a b (i + 1) j)) ∧ (¬ (i < a.length ∧ g + RA d g a b (i + 1) j = RA d g a b i j) → w2 = w1))
    (h3 : (j < b.length ∧ g + RA d g a b i (j + 1) = RA d g a b i j → w3 = sat w2 (WA d g a b i (j + 1))) ∧ (¬ (j < b.length ∧ g + RA d g a b i (j + 1) = RA d g a b i j) → w3 = w2)) : w3 = WA d g a b i j := by
  rcases Nat.lt_or_ge i a.length with hi' | hi' <;> rcases Nat.lt_or_ge j b.length with hj' | hj'
  · have e : WA d g a b i j = sat (sat (if d a[i] b[j] + RA d g a b (i + 1) (j + 1) = RA d g a b i j then WA d g a b (i + 1) (j + 1) else 0) (if g + RA d g a b (i + 1) j = RA d g a b i j then WA d g a b (i + 1) j else 0)) (if g + RA d g a b i (j + 1) = RA d g a b i j then WA d g a b i (j + 1) else 0) := by
      simp only [WA, RA, List.drop_eq_getElem_cons hi', List.drop_eq_getElem_cons hj', way_cc]
    have l1 := WA_le (d := d) (g := g) (a := a) (b := b) (i + 1) (j + 1)
    have l2 := WA_le (d := d) (g := g) (a := a) (b := b) (i + 1) j
    have l3 := WA_le (d := d) (g := g) (a := a) (b := b) i (j + 1)
    rw [if_neg (by omega)] at h0
    subst h0
    have q1 : w1 = if d a[i] b[j] + RA d g a b (i + 1) (j + 1) = RA d g a b i j then WA d g a b (i + 1) (j + 1) else 0 := by
      split
      · rename_i h; rw [h1.1 hi' hj' h, sat_zero l1]
      · rename_i h; exact h1.2 fun _ _ => h
    have q2 : w2 = sat w1 (if g + RA d g a b (i + 1) j = RA d g a b i j then WA d g a b (i + 1) j else 0) := by
      split
      · rename_i h; exact h2.1 ⟨hi', h⟩
      · rename_i h; rw [h2.2 fun h' => h h'.2, zero_sat (by rw [q1]; split <;> omega)]
    have q3 : w3 = sat w2 (if g + RA d g a b i (j + 1) = RA d g a b i j then WA d g a b i (j + 1) else 0) := by
      split
      · rename_i h; exact h3.1 ⟨hj', h⟩
      · rename_i h; rw [h3.2 fun h' => h h'.2, zero_sat (by rw [q2]; exact sat_le _ _)]
    rw [q3, q2, q1, e]
  · have r := RA_cn (d := d) (g := g) hi' hj'
    have e : WA d g a b i j = WA d g a b (i + 1) j := by simp only [WA, List.drop_eq_getElem_cons hi', List.drop_of_length_le hj', way_cn]
    rw [h3.2 fun h => by omega, h2.1 ⟨hi', r.symm⟩, h1.2 fun _ h => by omega, h0, if_neg (by omega), sat_zero (WA_le _ _), e]
  · have r := RA_nc (d := d) (g := g) hi' hj'
    have e : WA d g a b i j = WA d g a b i (j + 1) := by simp only [WA, List.drop_eq_getElem_cons hj', List.drop_of_length_le hi', way_nc]
    rw [h3.1 ⟨hj', r.symm⟩, h2.2 fun h => by omega, h1.2 fun h => by omega, h0, if_neg (by omega), sat_zero (WA_le _ _), e]
  · have e : WA d g a b i j = 1 := by simp only [WA, List.drop_of_length_le hi', List.drop_of_length_le hj', way_nn]
    rw [h3.2 fun h => by omega, h2.2 fun h => by omega, h1.2 fun h => by omega, h0, if_pos (by omega), e]
end
theorem Tab.keepO {m m' : Mem} {eo ei e' : TypeId} {kd : IntKind} {q q' : Option Addr} {cap cap' n' s' : Nat} {rs : List RD} {xs' : List Value} (h : Tab m eo ei kd q cap rs) (h' : Row m e' s' q' cap' n' xs') (ho : eo ≠ e') (hi : ei ≠ e') (hk : ∀ b, q' ≠ some ⟨b, 0, none⟩ → m' b = m b) : Tab m' eo ei kd q cap rs :=
  ⟨h.out.keep fun g hg _ => hk g (h.out.apart h' ho g hg), fun r hr => (h.inn r hr).keep fun g hg _ => hk g ((h.inn r hr).apart h' hi g hg), h.apart, h.ne⟩
end Go.Sy
namespace Go.Proofs.YtedfogpnmpmggaaDoor
open Go Go.Sy Go.RowKit
theorem c_plus (x y : Nat) (hx : x ≤ 2 ^ 63) (hy : y ≤ 2 ^ 63) : Ret Tryd.prog n_ref17_plus [.int .u64 x, .int .u64 y] (.int .u64 (sat x y : Nat)) := by
  have e1 : ar .sub .u64 9223372036854775808 (y : Int) = 9223372036854775808 - (y : Int) := by
    show IntKind.u64.wrap _ = _
    simp only [IntKind.wrap, IntKind.signed, IntKind.bits]
    simp; omega
  refine Fn.of S_ref17_plus mx [.i x, .i y] rfl rfl fun c _ => .ite (fun h => .ret rfl ?_) (fun h => .ret rfl ?_)
  · replace h : cm .geq (x : Int) (ar .sub .u64 9223372036854775808 (y : Int)) = true := h
    rw [e1] at h
    simp only [cm, decide_eq_true_eq] at h
    rw [show sat x y = 2 ^ 63 by unfold sat; omega]; rfl
  · replace h : cm .geq (x : Int) (ar .sub .u64 9223372036854775808 (y : Int)) = false := h
    rw [e1] at h
    simp only [cm, decide_eq_false_iff_not] at h
    show Value.int .u64 (ar .add .u64 (x : Int) (y : Int)) = _
    have e2 : ar .add .u64 (x : Int) (y : Int) = (x : Int) + y := by
      show IntKind.u64.wrap _ = _
      simp only [IntKind.wrap, IntKind.signed, IntKind.bits]
      simp; omega
    rw [e2, show sat x y = x + y by unfold sat; omega]; simp
theorem int88 : (Tryd.prog.info? 88).map (fun i => (i.zero, i.size, i.bytes)) = some (some (.int .u64 0), 1, 8) := by kernel_rfl
theorem int92 : (Tryd.prog.info? 92).map (fun i => (i.zero, i.size, i.bytes)) = some (some (.slice none 0 0), 1, 24) := by kernel_rfl
set_option maxHeartbeats 2000000 in
theorem c_refWays (A B : WD) (pc : Option Addr) (cc : Nat) (ws : List Int) (gap : Int) (ha : Wok A.w) (hb : Wok B.w) :
    RetP Tryd.prog n_ref17_Ways [A.v, B.v, costs pc ws.length cc gap] (fun R => WordAt R A.p A.w ∧ WordAt R B.p B.w ∧ CostsAt R pc ws) (.tuple #[.int .i64 (waysE ws gap A.w B.w).1, .int .i64 (waysE ws gap A.w B.w).2]) := by
  obtain ⟨pa, ca, a⟩ := A
  obtain ⟨pb, cb, b⟩ := B
  simp only [] at ha hb
  refine Fn.of S_ref17_Ways mx [.p pa, .i a.length, .i ca, .p pb, .i b.length, .i cb, .p pc, .i ws.length, .i cc, .i gap] rfl rfl fun c hp => .alloc fun b0 => .alloc fun b1 => ?_
  refine .callV (c_ref17Check pc cc ws gap (some ⟨b1, 0, none⟩) 2 [⟨pa, ca, a⟩, ⟨pb, cb, b⟩] (by simp [ha, hb]) (by simp)) (fun g => ⟨hp.2.2.mono g.R, g.cells (j := 1) rfl rfl rfl, ?_⟩) (.ite (fun h1 => .ret rfl ?_) (fun h1 => ?_))
  · simp only [List.mem_cons, List.not_mem_nil, or_false]
    rintro x (rfl | rfl)
    · exact hp.1.mono g.R
    · exact hp.2.1.mono g.R
  · ((try simp only [evE, liE, letsOf, letU, snd] at h1); (try simp only [cmE] at h1))
    replace h1 : checkE ws gap [a, b] ≠ 0 := h1
    have : waysE ws gap a b = (0, checkE ws gap [a, b]) := by unfold waysE; rw [if_pos h1]
    rw [this]; ((try simp only [evE, liE, letsOf, letU, snd]); (try simp only [cmE])); rfl
  ((try simp only [evE, liE, letsOf, letU, snd] at h1); (try simp only [cmE] at h1))
  replace h1 : checkE ws gap [a, b] = 0 := h1
  rw [show checkE ws gap (List.map (fun x : WD => x.w) [⟨pa, ca, a⟩, ⟨pb, cb, b⟩]) = 0 from h1]
  have hspec : waysE ws gap a b = if way (dC ws gap) gap a b = 2 ^ 63 then ((0 : Int), (7 : Int)) else (((way (dC ws gap) gap a b : Nat) : Int), (0 : Int)) := by unfold waysE; rw [if_neg (by simp [h1])]
  obtain ⟨hc, ⟨la, va⟩, lb, vb⟩ := checkE_two h1
  have hg := (checkC_zero hc).2
  have B := RA_bound hc la lb
  have Wle : ∀ x y, WA (dC ws gap) gap a b x y ≤ 2 ^ 63 := fun x y => WA_le x y
  have ea := add_i64 a.length (by omega)
  have eb := add_i64 b.length (by omega)
  refine .env (by (try simp only [liE, letsOf, letU, snd, List.append_nil]); rfl) (.callM (c_ref17rest ⟨pa, ca, a⟩ ⟨pb, cb, b⟩ pc cc ws gap ha hb h1) rfl rfl (fun g => ⟨hp.1.mono g.R, hp.2.1.mono g.R, hp.2.2.mono g.R⟩) ?_)
  rintro v mq hf ⟨qt, ct, rt, rfl, hT, hrt⟩
  refine ⟨[.p qt, .i (a.length + 1 : Nat), .i ct], ⟨_, _, _, rfl⟩, (slv_fresh _ _ _ _ _).symm, ?_⟩
  replace hT := hT.joinR (m := Mem.emp) fun b hb => (hf b hb).1
  generalize Mem.join _ mq = m0 at hT ⊢
  obtain ⟨hrl, hat⟩ := rows_of hrt
  have hat : ∀ x y, x ≤ a.length → y ≤ b.length → ∃ r, rt[x]? = some r ∧ r.v[y]? = some (RA (dC ws gap) gap a b x y) := fun x y hx hy => by
    obtain ⟨r, hr, hrv⟩ := hat x (by show x < a.length + 1; omega)
    exact ⟨r, hr, by rw [hrv]; exact restRow_at hy⟩
  clear hf hrt
  replace hrl : rt.length = a.length + 1 := hrl
  refine .env (by (try simp only [liE, letsOf, letU, snd, List.append_nil]); rfl) (.chk (by ((try simp only [evE, liE, letsOf, letU, snd]); (try simp only [cmE])); omega) (.make (a.length + 1) Tryd.underlying91 int92 rfl (by omega) (by simp [maxLen]; omega) (fun g9 hg9 hrow => ?_) (by show Value.int _ (ar .add .i64 (a.length : Int) 1) = _; rw [ea]) (by show Value.int _ (ar .add .i64 (a.length : Int) 1) = _; rw [ea])))
  replace hT := hT.keep (m' := m0.upd g9 (.cells (madeCells #[.slice none 0 0] (a.length + 1)) 92 (0, 0))) fun b hb => Mem.upd_other _ _ fun e => hb (e ▸ hg9)
  revert hrow hT
  generalize Mem.upd _ g9 _ = m1
  intro hrow hT
  have hW : Tab m1 92 88 .u64 (some ⟨g9, 0, none⟩) (a.length + 1) (List.replicate (a.length + 1) ⟨none, 0, []⟩) := ⟨by rw [List.length_replicate, List.map_replicate]; exact hrow, fun r hr => by rw [(List.mem_replicate.1 hr).2]; exact Row.nil _ _ _, (fun i j hi hj g _ h => by rw [List.getElem_replicate] at h; cases h), by decide⟩
  refine .env (by (try simp only [liE, letsOf, letU, snd, List.append_nil]); rfl) (.chk (by ((try simp only [evE, liE, letsOf, letU, snd]); (try simp only [cmE])); omega) (.loop (fun n us m => ∃ rs : List RD, us = [.i ((n : Int) - 1)] ∧ n ≤ a.length + 1 ∧ rs.length = a.length + 1 ∧ Tab m 23 2 .i64 qt ct rt ∧ Tab m 92 88 .u64 (some ⟨g9, 0, none⟩) (a.length + 1) rs ∧ ∀ k, n ≤ k → k ≤ a.length → ∃ r, rs[k]? = some r ∧ r.v.length = b.length + 1 ∧ ∀ y, y ≤ b.length → r.v[y]? = some (WA (dC ws gap) gap a b k y : Int)) (a.length + 1)
    ⟨_, ?_, Nat.le_refl _, by simp, hT, hW, fun k h1 h2 => by omega⟩ ?_))
  · (simp only [evE, liE, letsOf, letU, snd, Sh.uss, Sh.us, atAddr, map_add0, List.append_nil]); rw [show ((a.length + 1 : Nat) : Int) - 1 = a.length by omega]
  clear hT hW hrow hg9 m0 m1
  rintro n _ m _ ⟨rs, rfl, hn, hsl, hT, hW, hhi⟩
  refine .ite (fun h2 => ?_) (fun h2 => ?_) <;> ((try simp only [evE, liE, letsOf, letU, snd] at h2); (try simp only [cmE] at h2))
  · obtain ⟨i, rfl⟩ : ∃ i, n = i + 1 := ⟨n - 1, by omega⟩
    have ei := add_i64 i (by omega)
    refine .env (by (try simp only [liE, letsOf, letU, snd, List.append_nil]); rw [show ((i + 1 : Nat) : Int) - 1 = (i : Int) by omega]) (.chk (by ((try simp only [evE, liE, letsOf, letU, snd]); (try simp only [cmE])); omega) (.make (b.length + 1) Tryd.underlying92 int88 rfl (by omega) (by simp [maxLen]; omega) (fun g8 hg8 hrow8 => ?_) (by show Value.int _ (ar .add .i64 (b.length : Int) 1) = _; rw [eb]) (by show Value.int _ (ar .add .i64 (b.length : Int) 1) = _; rw [eb])))
    have hnew : ∀ (k : Nat) (hk : k < rs.length) (b' : Nat), rs[k].p = some ⟨b', 0, none⟩ → (some ⟨g8, 0, none⟩ : Option Addr) ≠ some ⟨b', 0, none⟩ := fun k hk b' h1 h2 => by
      cases h2
      rcases (hW.inn _ (List.getElem_mem hk)).2 with ⟨e, _⟩ | ⟨g', cur, e, e2, _⟩
      · rw [e] at h1; cases h1
      · rw [e] at h1; cases h1; rw [hg8] at e2; cases e2
    replace hT := hT.keep (m' := m.upd g8 (.cells (madeCells #[.int .u64 0] (b.length + 1)) 88 (0, 0))) fun b hb => Mem.upd_other _ _ fun e => hb (e ▸ hg8)
    replace hW := hW.keep (m' := m.upd g8 (.cells (madeCells #[.int .u64 0] (b.length + 1)) 88 (0, 0))) fun b hb => Mem.upd_other _ _ fun e => hb (e ▸ hg8)
    refine .env (by (try simp only [liE, letsOf, letU, snd, List.append_nil]); rfl) (.storeR i (by omega : i < rs.length) hW.out rfl rfl (by show ((a.length + 1 : Nat) : Int) = _; rw [hsl]) (fun m2 g2 hg2 ho2 hs2 => .chk (by ((try simp only [evE, liE, letsOf, letU, snd]); (try simp only [cmE])); omega) ?_))
    obtain rfl : g9 = g2 := by cases hg2; rfl
    have hW2 := hW.setRow (r := ⟨some ⟨g8, 0, none⟩, b.length + 1, List.replicate (b.length + 1) 0⟩) (by omega : i < rs.length) rfl (by rw [show RD.s ⟨some ⟨g8, 0, none⟩, b.length + 1, List.replicate (b.length + 1) 0⟩ = slv (some ⟨g8, 0, none⟩) (b.length + 1) (b.length + 1) by simp [RD.s]]; exact ho2) hs2 (by rw [List.length_replicate, List.map_replicate]; exact hrow8) hnew
    replace hT := hT.keepO hW.out (by decide) (by decide) (m' := m2) fun b hb => hs2 b fun e => hb (by rw [e])
    clear hW ho2 hrow8 hs2 hnew
    refine .env (by (try simp only [liE, letsOf, letU, snd, List.append_nil]); rfl) (.loop (fun n' us m' => ∃ vs : List Int, us = [.i ((n' : Int) - 1)] ∧ n' ≤ b.length + 1 ∧ vs.length = b.length + 1 ∧ Tab m' 23 2 .i64 qt ct rt ∧ Tab m' 92 88 .u64 (some ⟨g9, 0, none⟩) (a.length + 1) (rs.set i ⟨some ⟨g8, 0, none⟩, b.length + 1, vs⟩) ∧ (∀ y, y < n' → vs[y]? = some 0) ∧ ∀ y, n' ≤ y → y ≤ b.length → vs[y]? = some (WA (dC ws gap) gap a b i y : Int)) (b.length + 1)
      ⟨List.replicate (b.length + 1) 0, ?_, Nat.le_refl _, by simp, hT, hW2, fun y h => by rw [List.getElem?_replicate, if_pos h], fun j h1 h2 => by omega⟩ ?_)
    · (simp only [evE, liE, letsOf, letU, snd, Sh.uss, Sh.us, atAddr, map_add0, List.append_nil]); rw [show ((b.length + 1 : Nat) : Int) - 1 = b.length by omega]
    clear hT hW2
    rintro n' _ m' _ ⟨vs, rfl, hn', hvl, hT, hW, hv0, hvs⟩
    refine .ite (fun h3 => ?_) (fun h3 => .again rfl ⟨i, by omega, rs.set i ⟨some ⟨g8, 0, none⟩, b.length + 1, vs⟩, ?_, by omega, by rw [List.length_set]; exact hsl, hT, hW, fun k hk1 hk2 => ?_⟩) <;> ((try simp only [evE, liE, letsOf, letU, snd] at h3); (try simp only [cmE] at h3))
    · obtain ⟨j, rfl⟩ : ∃ j, n' = j + 1 := ⟨n' - 1, by omega⟩
      have hil : i ≤ a.length := by omega
      have hjl : j ≤ b.length := by omega
      have ej := add_i64 j (by omega)
      have hrow : ∀ us : List Int, (rs.set i ⟨some ⟨g8, 0, none⟩, b.length + 1, us⟩)[i]? = some ⟨some ⟨g8, 0, none⟩, b.length + 1, us⟩ := fun us => List.getElem?_set_self (by omega)
      have hle : ∀ us : List Int, (rs.set i ⟨some ⟨g8, 0, none⟩, b.length + 1, us⟩).length = a.length + 1 := fun us => by rw [List.length_set]; exact hsl
      have hnx : ∀ (us : List Int) (y : Nat), i < a.length → y ≤ b.length → ∃ r, (rs.set i ⟨some ⟨g8, 0, none⟩, b.length + 1, us⟩)[i + 1]? = some r ∧ r.v[y]? = some (WA (dC ws gap) gap a b (i + 1) y : Int) := fun us y hi hy => by
        obtain ⟨r, hr, _, hv⟩ := hhi (i + 1) (by omega) (by omega)
        exact ⟨r, by rw [List.getElem?_set_ne (by omega)]; exact hr, hv y hy⟩
      have hself : ∀ x : Int, (vs.set j x)[j]? = some x := fun x => List.getElem?_set_self (by omega)
      have hup : ∀ (x : Int) (y : Nat), j < y → y ≤ b.length → (vs.set j x)[y]? = some (WA (dC ws gap) gap a b i y : Int) := fun x y h1 h2 => by rw [List.getElem?_set_ne (by omega)]; exact hvs y (by omega) h2
      have hjlen : ∀ x : Int, j < (vs.set j x).length := fun x => by rw [List.length_set]; omega
      have hvj : vs = vs.set j 0 := by
        refine List.ext_getElem? fun y => ?_
        by_cases e : y = j
        · subst e; rw [hself, hv0 y (by omega)]
        · rw [List.getElem?_set_ne (by omega)]
      have keep : ∀ {m2 m3 : Mem} {us : List Int}, Tab m2 23 2 .i64 qt ct rt → Tab m2 92 88 .u64 (some ⟨g9, 0, none⟩) (a.length + 1) (rs.set i ⟨some ⟨g8, 0, none⟩, b.length + 1, us⟩) → (∀ b', (some ⟨g8, 0, none⟩ : Option Addr) ≠ some ⟨b', 0, none⟩ → m3 b' = m2 b') → Tab m3 23 2 .i64 qt ct rt := fun h1 h2 h3 => h1.keepO (h2.inn _ (List.mem_of_getElem? (hrow _))) (by decide) (by decide) h3
      refine .env (by (try simp only [liE, letsOf, letU, snd, List.append_nil]); rw [show ((j + 1 : Nat) : Int) - 1 = (j : Int) by omega]) ?_
      refine .join (fun us mm => m' = mm ∧ ∃ x : Bool, us = [.b x] ∧ (x = true ↔ i = a.length ∧ j = b.length)) (.chk (by ((try simp only [evE, liE, letsOf, letU, snd]); (try simp only [cmE])); omega) (.ite (fun h3 => .chk (by ((try simp only [evE, liE, letsOf, letU, snd]); (try simp only [cmE])); omega) (.again rfl ⟨rfl, cm .eql (j : Int) (b.length : Int), rfl, ?_⟩)) (fun h3 => .again rfl ⟨rfl, false, rfl, ?_⟩))) ?_
      · ((try simp only [evE, liE, letsOf, letU, snd] at h3); (try simp only [cmE] at h3)); simp [cm]; omega
      · ((try simp only [evE, liE, letsOf, letU, snd] at h3); (try simp only [cmE] at h3)); simp; omega
      rintro _ _ _ ⟨rfl, x1, rfl, hx1⟩
      refine .env (by (try simp only [liE, letsOf, letU, snd, List.append_nil]); rfl) (.join (fun us mm => us = [] ∧ ∃ w0 : Nat, w0 = (if i = a.length ∧ j = b.length then 1 else 0) ∧ Tab mm 23 2 .i64 qt ct rt ∧ Tab mm 92 88 .u64 (some ⟨g9, 0, none⟩) (a.length + 1) (rs.set i ⟨some ⟨g8, 0, none⟩, b.length + 1, vs.set j (w0 : Int)⟩)) (.ite (fun h4 => ?_) (fun h4 => .again rfl ⟨rfl, 0, ?_, hT, ?_⟩)) ?_)
      · replace h4 : x1 = true := h4
        refine .loadRow hW i _ (hrow _) ?_ rfl rfl (by rw [hle]; rfl)
        refine .env (by (try simp only [liE, letsOf, letU, snd, List.append_nil]); rfl) (.storeT hW i j _ 1 (hrow _) (by show j < vs.length; omega) (fun m3 hW' hs => .again rfl ⟨rfl, 1, ?_, keep hT hW hs, ?_⟩) rfl rfl rfl rfl)
        · rw [if_pos (hx1.1 h4)]
        · rw [List.set_set] at hW'; exact hW'
      · replace h4 : x1 = false := h4
        subst h4
        rw [if_neg (fun h => by cases hx1.2 h)]
      · rw [show ((0 : Nat) : Int) = 0 from rfl, ← hvj]; exact hW
      clear hT hW hvj hx1
      rintro _ m2 _ ⟨rfl, w0, hw0, hT, hW⟩
      have hw0' : w0 ≤ 2 ^ 63 := by rw [hw0]; split <;> omega
      refine .env (by (try simp only [liE, letsOf, letU, snd, List.append_nil]); rfl) (.join (fun us mm => m2 = mm ∧ ∃ x : Bool, us = [.b x] ∧ (x = true ↔ i < a.length ∧ j < b.length)) (.chk (by ((try simp only [evE, liE, letsOf, letU, snd]); (try simp only [cmE])); omega) (.ite (fun h3 => .chk (by ((try simp only [evE, liE, letsOf, letU, snd]); (try simp only [cmE])); omega) (.again rfl ⟨rfl, cm .lss (j : Int) (b.length : Int), rfl, ?_⟩)) (fun h3 => .again rfl ⟨rfl, false, rfl, ?_⟩))) ?_)
      · ((try simp only [evE, liE, letsOf, letU, snd] at h3); (try simp only [cmE] at h3)); simp [cm]; omega
      · ((try simp only [evE, liE, letsOf, letU, snd] at h3); (try simp only [cmE] at h3)); simp; omega
      rintro _ _ _ ⟨rfl, x2, rfl, hx2⟩
      refine .env (by (try simp only [liE, letsOf, letU, snd, List.append_nil]); rfl) (.join (fun us mm => us = [] ∧ ∃ w1 : Nat, w1 ≤ 2 ^ 63 ∧ ((∀ (hi : i < a.length) (hj : j < b.length), dC ws gap a[i] b[j] + RA (dC ws gap) gap a b (i + 1) (j + 1) = RA (dC ws gap) gap a b i j → w1 = sat w0 (WA (dC ws gap) gap a b (i + 1) (j + 1))) ∧ ((∀ (hi : i < a.length) (hj : j < b.length), dC ws gap a[i] b[j] + RA (dC ws gap) gap a b (i + 1) (j + 1) ≠ RA (dC ws gap) gap a b i j) → w1 = w0)) ∧ Tab mm 23 2 .i64 qt ct rt ∧ Tab mm 92 88 .u64 (some ⟨g9, 0, none⟩) (a.length + 1) (rs.set i ⟨some ⟨g8, 0, none⟩, b.length + 1, vs.set j (w1 : Int)⟩)) (.ite (fun h4 => ?_) (fun h4 => .again rfl ⟨rfl, w0, hw0', ⟨fun hi hj => ?_, fun _ => rfl⟩, hT, hW⟩)) ?_)
      · replace h4 : x2 = true := h4
        obtain ⟨hi, hj⟩ := hx2.1 h4
        obtain ⟨r1, hr1, hv1⟩ := hat (i + 1) (j + 1) hi hj
        obtain ⟨r0, hr0, hv0'⟩ := hat i j hil hjl
        have hd : 0 ≤ dC ws gap a[i] b[j] ∧ dC ws gap a[i] b[j] ≤ 1073741824 * 24 := distC_pos hc
        have b1 := B (i + 1) (j + 1)
        have esum : ar .add .i64 (dC ws gap a[i] b[j]) (RA (dC ws gap) gap a b (i + 1) (j + 1)) = dC ws gap a[i] b[j] + RA (dC ws gap) gap a b (i + 1) (j + 1) := addI (by omega) (by omega)
        refine .loadW a i hi (fun g => hp.1.mono g.R) (.env (by (try simp only [liE, letsOf, letU, snd, List.append_nil]); rfl) (.loadW b j hj (fun g => hp.2.1.mono g.R) (.env (by (try simp only [liE, letsOf, letU, snd, List.append_nil]); rfl) (.callV (c_refDist a[i] b[j] pc cc ws gap (ha.at hi) (hb.at hj)) (fun g => hp.2.2.mono g.R) (.env (by (try simp only [liE, letsOf, letU, snd, List.append_nil]); rfl) (.loadT hT (i + 1) (j + 1) r1 _ hr1 hv1 ?_ rfl (by show ar .add .i64 _ _ = _; exact ei) (by rw [hrl]; rfl) rfl (by show ar .add .i64 _ _ = _; exact ej) rfl))))))
        refine .env (by (try simp only [liE, letsOf, letU, snd, List.append_nil]); rfl) (.loadT hT i j r0 _ hr0 hv0' ?_ rfl rfl (by rw [hrl]; rfl) rfl rfl rfl)
        obtain ⟨s1, hs1, hsv1⟩ := hnx (vs.set j (w0 : Int)) (j + 1) hi hj
        refine .env (by (try simp only [liE, letsOf, letU, snd, List.append_nil]); rfl) (.join (fun us mm => us = [] ∧ ∃ w1 : Nat, w1 ≤ 2 ^ 63 ∧ (dC ws gap a[i] b[j] + RA (dC ws gap) gap a b (i + 1) (j + 1) = RA (dC ws gap) gap a b i j → w1 = sat w0 (WA (dC ws gap) gap a b (i + 1) (j + 1))) ∧ (dC ws gap a[i] b[j] + RA (dC ws gap) gap a b (i + 1) (j + 1) ≠ RA (dC ws gap) gap a b i j → w1 = w0) ∧ Tab mm 23 2 .i64 qt ct rt ∧ Tab mm 92 88 .u64 (some ⟨g9, 0, none⟩) (a.length + 1) (rs.set i ⟨some ⟨g8, 0, none⟩, b.length + 1, vs.set j (w1 : Int)⟩)) (.ite (fun h5 => ?_) (fun h5 => .again rfl ⟨rfl, w0, hw0', fun h => ?_, fun _ => rfl, hT, hW⟩)) ?_)
        · replace h5 : (ar .add .i64 (dC ws gap a[i] b[j]) (RA (dC ws gap) gap a b (i + 1) (j + 1)) == RA (dC ws gap) gap a b i j) = true := h5
          rw [esum, beq_iff_eq] at h5
          refine .loadRow hW i _ (hrow _) ?_ rfl rfl (by rw [hle]; rfl)
          refine .env (by (try simp only [liE, letsOf, letU, snd, List.append_nil]); rfl) (.loadT hW i j _ _ (hrow _) (hself _) ?_ rfl rfl (by rw [hle]; rfl) rfl rfl rfl)
          refine .env (by (try simp only [liE, letsOf, letU, snd, List.append_nil]); rfl) (.loadT hW (i + 1) (j + 1) s1 _ hs1 hsv1 ?_ rfl (by show ar .add .i64 _ _ = _; exact ei) (by rw [hle]; rfl) rfl (by show ar .add .i64 _ _ = _; exact ej) rfl)
          refine .env (by (try simp only [liE, letsOf, letU, snd, List.append_nil]); rfl) (.callV (c_plus w0 (WA (dC ws gap) gap a b (i + 1) (j + 1)) hw0' (Wle _ _)) (fun _ => trivial) ?_)
          refine .env (by (try simp only [liE, letsOf, letU, snd, List.append_nil]); rfl) (.storeT hW i j _ (sat w0 (WA (dC ws gap) gap a b (i + 1) (j + 1)) : Int) (hrow _) (hjlen _) (fun m3 hW' hs => .again rfl ⟨rfl, sat w0 (WA (dC ws gap) gap a b (i + 1) (j + 1)), sat_le _ _, fun _ => rfl, fun h => absurd h5 h, keep hT hW hs, ?_⟩) rfl rfl rfl rfl)
          rw [List.set_set] at hW'
          simp only [List.set_set] at hW'
          exact hW'
        · replace h5 : (ar .add .i64 (dC ws gap a[i] b[j]) (RA (dC ws gap) gap a b (i + 1) (j + 1)) == RA (dC ws gap) gap a b i j) = false := h5
          rw [esum, h] at h5; simp at h5
        rintro _ m3 _ ⟨rfl, w1, hw1, e1, e2, hT, hW⟩
        exact .env (by (try simp only [liE, letsOf, letU, snd, List.append_nil]); rfl) (.again rfl ⟨rfl, w1, hw1, ⟨fun _ _ => e1, fun h => e2 (h hi hj)⟩, hT, hW⟩)
      · replace h4 : x2 = false := h4
        subst h4
        cases hx2.2 ⟨hi, hj⟩
      clear hT hW hx2 hw0'
      rintro _ m3 _ ⟨rfl, w1, hw1', hw1, hT, hW⟩
      refine .env (by (try simp only [liE, letsOf, letU, snd, List.append_nil]); rfl) (.join (fun us mm => m3 = mm ∧ ∃ x : Bool, us = [.b x] ∧ (x = true ↔ i < a.length ∧ gap + RA (dC ws gap) gap a b (i + 1) j = RA (dC ws gap) gap a b i j)) (.chk (by ((try simp only [evE, liE, letsOf, letU, snd]); (try simp only [cmE])); omega) (.ite (fun h3 => ?_) (fun h3 => .again rfl ⟨rfl, false, rfl, ?_⟩))) ?_)
      · ((try simp only [evE, liE, letsOf, letU, snd] at h3); (try simp only [cmE] at h3))
        obtain ⟨r1, hr1, hv1⟩ := hat (i + 1) j (by omega) hjl
        obtain ⟨r0, hr0, hv0'⟩ := hat i j hil hjl
        have b1 := B (i + 1) j
        refine .loadT hT (i + 1) j r1 _ hr1 hv1 ?_ rfl (by show ar .add .i64 _ _ = _; exact ei) (by rw [hrl]; rfl) rfl rfl rfl
        refine .env (by (try simp only [liE, letsOf, letU, snd, List.append_nil]); rfl) (.loadT hT i j r0 _ hr0 hv0' (.again rfl ⟨rfl, cm .eql (gap + RA (dC ws gap) gap a b (i + 1) j) (RA (dC ws gap) gap a b i j), ?_, ?_⟩) rfl rfl (by rw [hrl]; rfl) rfl rfl rfl)
        · (simp only [evE, liE, letsOf, letU, snd, Sh.uss, Sh.us, atAddr, map_add0, List.append_nil]); rw [addI (by omega) (by omega)]
        · simp [cm]; omega
      · ((try simp only [evE, liE, letsOf, letU, snd] at h3); (try simp only [cmE] at h3)); simp; omega
      rintro _ _ _ ⟨rfl, x3, rfl, hx3⟩
      refine .env (by (try simp only [liE, letsOf, letU, snd, List.append_nil]); rfl) (.join (fun us mm => us = [] ∧ ∃ w2 : Nat, w2 ≤ 2 ^ 63 ∧ ((i < a.length ∧ gap + RA (dC ws gap) gap a b (i + 1) j = RA (dC ws gap) gap a b i j → w2 = sat w1 (WA (dC ws gap) gap a b (i + 1) j)) ∧ (¬ (i < a.length ∧ gap + RA (dC ws gap) gap a b (i + 1) j = RA (dC ws gap) gap a b i j) → w2 = w1)) ∧ Tab mm 23 2 .i64 qt ct rt ∧ Tab mm 92 88 .u64 (some ⟨g9, 0, none⟩) (a.length + 1) (rs.set i ⟨some ⟨g8, 0, none⟩, b.length + 1, vs.set j (w2 : Int)⟩)) (.ite (fun h4 => ?_) (fun h4 => .again rfl ⟨rfl, w1, hw1', ⟨fun h => ?_, fun _ => rfl⟩, hT, hW⟩)) ?_)
      · replace h4 : x3 = true := h4
        have h5 := hx3.1 h4
        obtain ⟨s1, hs1, hsv1⟩ := hnx (vs.set j (w1 : Int)) j h5.1 hjl
        refine .loadRow hW i _ (hrow _) ?_ rfl rfl (by rw [hle]; rfl)
        refine .env (by (try simp only [liE, letsOf, letU, snd, List.append_nil]); rfl) (.loadT hW i j _ _ (hrow _) (hself _) ?_ rfl rfl (by rw [hle]; rfl) rfl rfl rfl)
        refine .env (by (try simp only [liE, letsOf, letU, snd, List.append_nil]); rfl) (.loadT hW (i + 1) j s1 _ hs1 hsv1 ?_ rfl (by show ar .add .i64 _ _ = _; exact ei) (by rw [hle]; rfl) rfl rfl rfl)
        refine .env (by (try simp only [liE, letsOf, letU, snd, List.append_nil]); rfl) (.callV (c_plus w1 (WA (dC ws gap) gap a b (i + 1) j) hw1' (Wle _ _)) (fun _ => trivial) ?_)
        refine .env (by (try simp only [liE, letsOf, letU, snd, List.append_nil]); rfl) (.storeT hW i j _ (sat w1 (WA (dC ws gap) gap a b (i + 1) j) : Int) (hrow _) (hjlen _) (fun m4 hW' hs => .again rfl ⟨rfl, sat w1 (WA (dC ws gap) gap a b (i + 1) j), sat_le _ _, ⟨fun _ => rfl, fun h => absurd h5 h⟩, keep hT hW hs, ?_⟩) rfl rfl rfl rfl)
        rw [List.set_set] at hW'
        simp only [List.set_set] at hW'
        exact hW'
      · replace h4 : x3 = false := h4
        subst h4
        cases hx3.2 h
      clear hT hW hx3 hw1'
      rintro _ m4 _ ⟨rfl, w2, hw2', hw2, hT, hW⟩
      refine .env (by (try simp only [liE, letsOf, letU, snd, List.append_nil]); rfl) (.join (fun us mm => m4 = mm ∧ ∃ x : Bool, us = [.b x] ∧ (x = true ↔ j < b.length ∧ gap + RA (dC ws gap) gap a b i (j + 1) = RA (dC ws gap) gap a b i j)) (.chk (by ((try simp only [evE, liE, letsOf, letU, snd]); (try simp only [cmE])); omega) (.ite (fun h3 => ?_) (fun h3 => .again rfl ⟨rfl, false, rfl, ?_⟩))) ?_)
      · ((try simp only [evE, liE, letsOf, letU, snd] at h3); (try simp only [cmE] at h3))
        obtain ⟨r1, hr1, hv1⟩ := hat i (j + 1) hil (by omega)
        obtain ⟨r0, hr0, hv0'⟩ := hat i j hil hjl
        have b1 := B i (j + 1)
        refine .loadT hT i (j + 1) r1 _ hr1 hv1 ?_ rfl rfl (by rw [hrl]; rfl) rfl (by show ar .add .i64 _ _ = _; exact ej) rfl
        refine .env (by (try simp only [liE, letsOf, letU, snd, List.append_nil]); rfl) (.loadT hT i j r0 _ hr0 hv0' (.again rfl ⟨rfl, cm .eql (gap + RA (dC ws gap) gap a b i (j + 1)) (RA (dC ws gap) gap a b i j), ?_, ?_⟩) rfl rfl (by rw [hrl]; rfl) rfl rfl rfl)
        · (simp only [evE, liE, letsOf, letU, snd, Sh.uss, Sh.us, atAddr, map_add0, List.append_nil]); rw [addI (by omega) (by omega)]
        · simp [cm]; omega
      · ((try simp only [evE, liE, letsOf, letU, snd] at h3); (try simp only [cmE] at h3)); simp; omega
      rintro _ _ _ ⟨rfl, x4, rfl, hx4⟩
      refine .env (by (try simp only [liE, letsOf, letU, snd, List.append_nil]); rfl) (.join (fun us mm => us = [] ∧ Tab mm 23 2 .i64 qt ct rt ∧ Tab mm 92 88 .u64 (some ⟨g9, 0, none⟩) (a.length + 1) (rs.set i ⟨some ⟨g8, 0, none⟩, b.length + 1, vs.set j (WA (dC ws gap) gap a b i j : Int)⟩)) (.ite (fun h4 => ?_) (fun h4 => .again rfl ⟨rfl, hT, ?_⟩)) ?_)
      · replace h4 : x4 = true := h4
        have h5 := hx4.1 h4
        refine .loadRow hW i _ (hrow _) ?_ rfl rfl (by rw [hle]; rfl)
        refine .env (by (try simp only [liE, letsOf, letU, snd, List.append_nil]); rfl) (.loadT hW i j _ _ (hrow _) (hself _) ?_ rfl rfl (by rw [hle]; rfl) rfl rfl rfl)
        refine .env (by (try simp only [liE, letsOf, letU, snd, List.append_nil]); rfl) (.loadT hW i (j + 1) _ _ (hrow _) (hup _ (j + 1) (by omega) h5.1) ?_ rfl rfl (by rw [hle]; rfl) rfl (by show ar .add .i64 _ _ = _; exact ej) rfl)
        refine .env (by (try simp only [liE, letsOf, letU, snd, List.append_nil]); rfl) (.callV (c_plus w2 (WA (dC ws gap) gap a b i (j + 1)) hw2' (Wle _ _)) (fun _ => trivial) ?_)
        refine .env (by (try simp only [liE, letsOf, letU, snd, List.append_nil]); rfl) (.storeT hW i j _ (sat w2 (WA (dC ws gap) gap a b i (j + 1)) : Int) (hrow _) (hjlen _) (fun m5 hW' hs => .again rfl ⟨rfl, keep hT hW hs, ?_⟩) rfl rfl rfl rfl)
        rw [List.set_set] at hW'
        simp only [List.set_set] at hW'
        rw [← WA_sum hil hjl hw0 hw1 hw2 (w3 := sat w2 (WA (dC ws gap) gap a b i (j + 1))) ⟨fun _ => rfl, fun h => absurd h5 h⟩]; exact hW'
      · replace h4 : x4 = false := h4
        subst h4
        rw [← WA_sum hil hjl hw0 hw1 hw2 (w3 := w2) ⟨fun h => (by cases hx4.2 h), fun _ => rfl⟩]; exact hW
      clear hT hW
      rintro _ m5 _ ⟨rfl, hT, hW⟩
      refine .env (by (try simp only [liE, letsOf, letU, snd, List.append_nil]); rfl) (.again rfl ⟨j, by omega, vs.set j (WA (dC ws gap) gap a b i j : Int), ?_, by omega, by rw [List.length_set]; exact hvl, hT, hW, fun y h => ?_, fun y h1 h2 => ?_⟩)
      · (simp only [evE, liE, letsOf, letU, snd, Sh.uss, Sh.us, atAddr, map_add0, List.append_nil]); rw [subI (by omega) (by omega)]
      · rw [List.getElem?_set_ne (by omega)]; exact hv0 y (by omega)
      · rcases Nat.lt_or_ge j y with h | h
        · exact hup _ y h h2
        · obtain rfl : y = j := by omega
          exact hself _
    · (simp only [evE, liE, letsOf, letU, snd, Sh.uss, Sh.us, atAddr, map_add0, List.append_nil]); rw [subI (by omega) (by omega)]
    · by_cases e : k = i
      · subst e
        exact ⟨_, List.getElem?_set_self (by omega), hvl, fun y hy => hvs y (by omega) hy⟩
      · obtain ⟨r, h3, h4⟩ := hhi k (by omega) hk2
        exact ⟨r, by rw [List.getElem?_set_ne (by omega)]; exact h3, h4⟩
  · obtain ⟨r, hr, hrl2, hrv⟩ := hhi 0 (by omega) (by omega)
    have hw00 : WA (dC ws gap) gap a b 0 0 = way (dC ws gap) gap a b := rfl
    have hv00 := hrv 0 (by omega)
    rw [hw00] at hv00
    have hwl := way_le (d := dC ws gap) (g := gap) a b
    refine .first2 hW r _ hr hv00 (.env (by (try simp only [liE, letsOf, letU, snd, List.append_nil]); rfl) (.ite (fun h3 => .ret rfl ?_) (fun h3 => ?_))) rfl (by rw [hsl]; rfl) rfl rfl
    · ((try simp only [evE, liE, letsOf, letU, snd] at h3); (try simp only [cmE] at h3))
      rw [hspec, if_pos (by omega)]; rfl
    · ((try simp only [evE, liE, letsOf, letU, snd] at h3); (try simp only [cmE] at h3))
      refine .first2 hW r _ hr hv00 (.env (by (try simp only [liE, letsOf, letU, snd, List.append_nil]); rfl) (.ret rfl ?_)) rfl (by rw [hsl]; rfl) rfl rfl
      rw [hspec, if_neg (by omega)]
      show Value.tuple #[.int .i64 (IntKind.i64.wrap ((way (dC ws gap) gap a b : Nat) : Int)), .int .i64 0] = _
      rw [wrap_i64 (by omega) (by omega)]
end Go.Proofs.YtedfogpnmpmggaaDoor
