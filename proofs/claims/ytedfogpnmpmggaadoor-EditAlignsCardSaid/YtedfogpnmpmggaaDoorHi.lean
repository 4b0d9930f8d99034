/- The reference's table of rests. -/
import Derived.Test.YtedfogpnmpmggaaDoorPr
import Derived.Test.YtedfogpnmpmggaaDoorPs
import Derived.Test.YtedfogpnmpmggaaDoorHf
import Derived.Test.YtedfogpnmpmggaaDoorTd
set_option linter.unusedSimpArgs false
set_option linter.unusedVariables false
namespace Go.Sy
open Go Go.RowKit
/-- Row i of the table. -/
def restRow (d : Snd → Snd → Int) (g : Int) (a b : List Snd) (i : Nat) : List Int := (List.range (b.length + 1)).map fun j => RA d g a b i j
theorem RA_bound {ws : List Int} {gap : Int} {a b : List Snd} (hc : checkC ws gap = 0) (la : a.length ≤ 32) (lb : b.length ≤ 32) (i j : Nat) : 0 ≤ RA (dC ws gap) gap a b i j ∧ RA (dC ws gap) gap a b i j ≤ 1073741824 * 64 := by
  have hg := (checkC_zero hc).2
  refine ⟨rst_pos hg.1 (fun x y => (distC_pos hc).1) _ _, ?_⟩
  have h1 := rst_le (d := dC ws gap) (g := gap) (a.drop i) (b.drop j)
  have h2 : gap * (((a.drop i).length + (b.drop j).length : Nat) : Int) ≤ 1073741824 * 64 := by
    refine Int.le_trans (Int.mul_le_mul_of_nonneg_right hg.2.1 (by omega)) ?_
    simp; omega
  exact Int.le_trans h1 h2
theorem restRow_at {d : Snd → Snd → Int} {g : Int} {a b : List Snd} {i j : Nat} (h : j ≤ b.length) : (restRow d g a b i)[j]? = some (RA d g a b i j) := by
  unfold restRow; rw [List.getElem?_map, List.getElem?_range (by omega)]; rfl
theorem fin4 {ws : List Int} {gap : Int} {a b : List Snd} {i j : Nat} {v1 v2 v3 v4 : Int} (hc : checkC ws gap = 0) (h1 : (i = a.length ∧ j = b.length → v1 = 0) ∧ (¬ (i = a.length ∧ j = b.length) → v1 = -1))
    (h2 : (∀ (hi : i < a.length) (hj : j < b.length), v2 = dC ws gap a[i] b[j] + RA (dC ws gap) gap a b (i + 1) (j + 1)) ∧ (¬ (i < a.length ∧ j < b.length) → v2 = v1))
    (h3 : (i < a.length ∧ (v2 < 0 ∨ gap + RA (dC ws gap) gap a b (i + 1) j < v2) → v3 = gap + RA (dC ws gap) gap a b (i + 1) j) ∧ (¬ (i < a.length ∧ (v2 < 0 ∨ gap + RA (dC ws gap) gap a b (i + 1) j < v2)) → v3 = v2)) (hi : i ≤ a.length) (hj : j ≤ b.length)
    (h4 : j < b.length ∧ (v3 < 0 ∨ gap + RA (dC ws gap) gap a b i (j + 1) < v3) → v4 = gap + RA (dC ws gap) gap a b i (j + 1)) (h5 : ¬ (j < b.length ∧ (v3 < 0 ∨ gap + RA (dC ws gap) gap a b i (j + 1) < v3)) → v4 = v3) : v4 = RA (dC ws gap) gap a b i j := by
  have hg := (checkC_zero hc).2
  have hn : ∀ i j, 0 ≤ RA (dC ws gap) gap a b i j := fun i j => RA_nonneg hg.1 fun x y => (distC_pos hc).1
  have n1 := hn (i + 1) (j + 1)
  have n2 := hn (i + 1) j
  have n3 := hn i (j + 1)
  rcases Nat.lt_or_ge i a.length with hi' | hi' <;> rcases Nat.lt_or_ge j b.length with hj' | hj'
  · have k := h2.1 hi' hj'
    have hd := (distC_pos (x := a[i]) (y := b[j]) hc).1
    have r := RA_cc (d := dC ws gap) (g := gap) hi' hj'
    have hd' : 0 ≤ dC ws gap a[i] b[j] := hd
    omega
  · have r := RA_cn (d := dC ws gap) (g := gap) hi' hj'
    omega
  · have r := RA_nc (d := dC ws gap) (g := gap) hi' hj'
    omega
  · obtain rfl : i = a.length := by omega
    obtain rfl : j = b.length := by omega
    rw [RA_end (Nat.le_refl _) (Nat.le_refl _)]
    omega
end Go.Sy
namespace Go.Proofs.YtedfogpnmpmggaaDoor
open Go Go.Sy Go.RowKit
theorem int23 : (Tryd.prog.info? 23).map (fun i => (i.zero, i.size, i.bytes)) = some (some (.slice none 0 0), 1, 24) := by kernel_rfl
set_option maxHeartbeats 400000 in
theorem c_ref17rest (A B : WD) (pc : Option Addr) (cc : Nat) (ws : List Int) (gap : Int) (ha : Wok A.w) (hb : Wok B.w) (hc : checkE ws gap [A.w, B.w] = 0) :
    FnM Tryd.prog n_ref17_rest [A.v, B.v, costs pc ws.length cc gap] (fun R => WordAt R A.p A.w ∧ WordAt R B.p B.w ∧ CostsAt R pc ws) fun v mq _ =>
      ∃ q cq rs, v = slv q (A.w.length + 1) cq ∧ Tab mq 23 2 .i64 q cq rs ∧ rs.map (·.v) = (List.range (A.w.length + 1)).map fun i => restRow (dC ws gap) gap A.w B.w i := by
  obtain ⟨pa, ca, a⟩ := A
  obtain ⟨pb, cb, b⟩ := B
  simp only [] at ha hb hc
  obtain ⟨hcc, ⟨la, va⟩, lb, vb⟩ := checkE_two hc
  refine FnM.of S_ref17_rest mx [.p pa, .i a.length, .i ca, .p pb, .i b.length, .i cb, .p pc, .i ws.length, .i cc, .i gap] rfl rfl fun c hp => .alloc fun b0 => .chk (by ((try simp only [evE, liE, letsOf, letU, snd]); (try simp only [cmE])); omega) ?_
  have ea := add_i64 a.length (by omega)
  have eb := add_i64 b.length (by omega)
  refine .make (a.length + 1) Tryd.underlying81 int23 rfl (by omega) (by simp [maxLen]; omega) (fun g9 hg9 hrow => ?_) (by show Value.int _ (ar .add .i64 (a.length : Int) 1) = _; rw [ea]) (by show Value.int _ (ar .add .i64 (a.length : Int) 1) = _; rw [ea])
  revert hrow
  generalize Mem.upd _ g9 _ = m1
  intro hrow
  have hT : Tab m1 23 2 .i64 (some ⟨g9, 0, none⟩) (a.length + 1) (List.replicate (a.length + 1) ⟨none, 0, []⟩) := ⟨by rw [List.length_replicate, List.map_replicate]; exact hrow, fun r hr => by rw [(List.mem_replicate.1 hr).2]; exact Row.nil _ _ _, (fun i j hi hj g _ h => by rw [List.getElem_replicate] at h; cases h), by decide⟩
  refine .env (by (try simp only [liE, letsOf, letU, snd, List.append_nil]); rfl) (.chk (by ((try simp only [evE, liE, letsOf, letU, snd]); (try simp only [cmE])); omega) (.loop (fun n us m => ∃ rs : List RD, us = [.i ((n : Int) - 1)] ∧ n ≤ a.length + 1 ∧ rs.length = a.length + 1 ∧ Tab m 23 2 .i64 (some ⟨g9, 0, none⟩) (a.length + 1) rs ∧ (∀ k, k < n → rs[k]? = some ⟨none, 0, []⟩) ∧ ∀ k, n ≤ k → k ≤ a.length → (rs[k]?.map (·.v)) = some (restRow (dC ws gap) gap a b k)) (a.length + 1)
    ⟨_, ?_, Nat.le_refl _, by simp, hT, fun k hk => by rw [List.getElem?_replicate, if_pos hk], fun k h1 h2 => by omega⟩ ?_))
  · (simp only [evE, liE, letsOf, letU, snd, Sh.uss, Sh.us, atAddr, map_add0, List.append_nil]); rw [show ((a.length + 1 : Nat) : Int) - 1 = a.length by omega]
  clear hT hrow
  rintro n _ m _ ⟨rs, rfl, hn, hrl, hT, hlo, hhi⟩
  refine .ite (fun h1 => ?_) (fun h1 => .ret rfl ⟨some ⟨g9, 0, none⟩, a.length + 1, rs, rfl, hT, ?_⟩) <;> ((try simp only [evE, liE, letsOf, letU, snd] at h1); (try simp only [cmE] at h1))
  · obtain ⟨i, rfl⟩ : ∃ i, n = i + 1 := ⟨n - 1, by omega⟩
    have hTk : ∀ g' o, m g' = none → Tab (m.upd g' o) 23 2 .i64 (some ⟨g9, 0, none⟩) (a.length + 1) rs := fun g' o hg => hT.keep fun b hb => Mem.upd_other _ _ fun e => hb (e ▸ hg)
    refine .env (by (try simp only [liE, letsOf, letU, snd, List.append_nil]); rw [show ((i + 1 : Nat) : Int) - 1 = (i : Int) by omega]) (.chk (by ((try simp only [evE, liE, letsOf, letU, snd]); (try simp only [cmE])); omega) (.make (b.length + 1) Tryd.underlying23 int2 rfl (by omega) (by simp [maxLen]; omega) (fun g8 hg8 hrow8 => ?_) (by show Value.int _ (ar .add .i64 (b.length : Int) 1) = _; rw [eb]) (by show Value.int _ (ar .add .i64 (b.length : Int) 1) = _; rw [eb])))
    have hnew : ∀ (k : Nat) (hk : k < rs.length) (b' : Nat), rs[k].p = some ⟨b', 0, none⟩ → (some ⟨g8, 0, none⟩ : Option Addr) ≠ some ⟨b', 0, none⟩ := fun k hk b' h1 h2 => by
      cases h2
      rcases (hT.inn _ (List.getElem_mem hk)).2 with ⟨e, _⟩ | ⟨g', cur, e, e2, _⟩
      · rw [e] at h1; cases h1
      · rw [e] at h1; cases h1; rw [hg8] at e2; cases e2
    replace hT := hTk g8 (.cells (madeCells #[.int .i64 0] (b.length + 1)) 2 (0, 0)) hg8
    refine .env (by (try simp only [liE, letsOf, letU, snd, List.append_nil]); rfl) (.storeR i (by omega : i < rs.length) hT.out rfl rfl (by show ((a.length + 1 : Nat) : Int) = _; rw [hrl]) (fun m2 g2 hg2 ho2 hs2 => .chk (by ((try simp only [evE, liE, letsOf, letU, snd]); (try simp only [cmE])); omega) ?_))
    obtain rfl : g9 = g2 := by cases hg2; rfl
    have hT2 := hT.setRow (r := ⟨some ⟨g8, 0, none⟩, b.length + 1, List.replicate (b.length + 1) 0⟩) (by omega : i < rs.length) rfl (by rw [show RD.s ⟨some ⟨g8, 0, none⟩, b.length + 1, List.replicate (b.length + 1) 0⟩ = slv (some ⟨g8, 0, none⟩) (b.length + 1) (b.length + 1) by simp [RD.s]]; exact ho2) hs2 (by rw [List.length_replicate, List.map_replicate]; exact hrow8) hnew
    clear hT ho2 hrow8 hs2 hnew hTk
    refine .env (by (try simp only [liE, letsOf, letU, snd, List.append_nil]); rfl) (.loop (fun n' us m' => ∃ vs : List Int, us = [.i ((n' : Int) - 1)] ∧ n' ≤ b.length + 1 ∧ vs.length = b.length + 1 ∧ Tab m' 23 2 .i64 (some ⟨g9, 0, none⟩) (a.length + 1) (rs.set i ⟨some ⟨g8, 0, none⟩, b.length + 1, vs⟩) ∧ ∀ j, n' ≤ j → j ≤ b.length → vs[j]? = some (RA (dC ws gap) gap a b i j)) (b.length + 1)
      ⟨List.replicate (b.length + 1) 0, ?_, Nat.le_refl _, by simp, hT2, fun j h1 h2 => by omega⟩ ?_)
    · (simp only [evE, liE, letsOf, letU, snd, Sh.uss, Sh.us, atAddr, map_add0, List.append_nil]); rw [show ((b.length + 1 : Nat) : Int) - 1 = b.length by omega]
    clear hT2
    rintro n' _ m' _ ⟨vs, rfl, hn', hvl, hT, hvs⟩
    refine .ite (fun h2 => ?_) (fun h2 => .again rfl ⟨i, by omega, rs.set i ⟨some ⟨g8, 0, none⟩, b.length + 1, vs⟩, ?_, by omega, by rw [List.length_set]; exact hrl, hT, fun k hk => ?_, fun k hk1 hk2 => ?_⟩) <;> ((try simp only [evE, liE, letsOf, letU, snd] at h2); (try simp only [cmE] at h2))
    · obtain ⟨j, rfl⟩ : ∃ j, n' = j + 1 := ⟨n' - 1, by omega⟩
      have hil : i ≤ a.length := by omega
      have hjl : j ≤ b.length := by omega
      have ei := add_i64 i (by omega)
      have ej := add_i64 j (by omega)
      have hrow : (rs.set i ⟨some ⟨g8, 0, none⟩, b.length + 1, vs⟩)[i]? = some ⟨some ⟨g8, 0, none⟩, b.length + 1, vs⟩ := List.getElem?_set_self (by omega)
      have hlen : (rs.set i ⟨some ⟨g8, 0, none⟩, b.length + 1, vs⟩).length = a.length + 1 := by rw [List.length_set]; exact hrl
      have hnext : ∀ y, i < a.length → y ≤ b.length → ∃ r, (rs.set i ⟨some ⟨g8, 0, none⟩, b.length + 1, vs⟩)[i + 1]? = some r ∧ r.v[y]? = some (RA (dC ws gap) gap a b (i + 1) y) := fun y hi hy => by
        have := hhi (i + 1) (by omega) (by omega)
        rw [List.getElem?_set_ne (by omega)]
        cases hr : rs[i + 1]? with
        | none => rw [hr] at this; cases this
        | some r =>
          rw [hr] at this
          simp only [Option.map_some, Option.some.injEq] at this
          exact ⟨r, rfl, by rw [this]; exact restRow_at hy⟩
      have B := RA_bound hcc la lb
      have hg := (checkC_zero hcc).2
      refine .env (by (try simp only [liE, letsOf, letU, snd, List.append_nil]); rw [show ((j + 1 : Nat) : Int) - 1 = (j : Int) by omega]) ?_
      refine .join (fun us mm => m' = mm ∧ ∃ x : Bool, us = [.b x] ∧ (x = true ↔ i = a.length ∧ j = b.length)) (.chk (by ((try simp only [evE, liE, letsOf, letU, snd]); (try simp only [cmE])); omega) (.ite (fun h3 => .chk (by ((try simp only [evE, liE, letsOf, letU, snd]); (try simp only [cmE])); omega) (.again rfl ⟨rfl, cm .eql (j : Int) (b.length : Int), rfl, ?_⟩)) (fun h3 => .again rfl ⟨rfl, false, rfl, ?_⟩))) ?_
      · ((try simp only [evE, liE, letsOf, letU, snd] at h3); (try simp only [cmE] at h3)); simp [cm]; omega
      · ((try simp only [evE, liE, letsOf, letU, snd] at h3); (try simp only [cmE] at h3)); simp; omega
      rintro _ _ _ ⟨rfl, x1, rfl, hx1⟩
      refine .env (by (try simp only [liE, letsOf, letU, snd, List.append_nil]); rfl) (.join (fun us mm => m' = mm ∧ ∃ v : Int, us = [.i v] ∧ (i = a.length ∧ j = b.length → v = 0) ∧ (¬ (i = a.length ∧ j = b.length) → v = -1)) (.ite (fun h3 => .again rfl ⟨rfl, 0, rfl, ?_⟩) (fun h3 => .again rfl ⟨rfl, -1, rfl, ?_⟩)) ?_)
      · have h3 : x1 = true := h3
        have := hx1.1 h3
        omega
      · have h3 : x1 = false := h3
        subst h3
        have : ¬ (i = a.length ∧ j = b.length) := fun h => by cases hx1.2 h
        omega
      rintro _ _ _ ⟨rfl, v1, rfl, hv1⟩
      refine .env (by (try simp only [liE, letsOf, letU, snd, List.append_nil]); rfl) (.join (fun us mm => m' = mm ∧ ∃ x : Bool, us = [.b x] ∧ (x = true ↔ i < a.length ∧ j < b.length)) (.chk (by ((try simp only [evE, liE, letsOf, letU, snd]); (try simp only [cmE])); omega) (.ite (fun h3 => .chk (by ((try simp only [evE, liE, letsOf, letU, snd]); (try simp only [cmE])); omega) (.again rfl ⟨rfl, cm .lss (j : Int) (b.length : Int), rfl, ?_⟩)) (fun h3 => .again rfl ⟨rfl, false, rfl, ?_⟩))) ?_)
      · ((try simp only [evE, liE, letsOf, letU, snd] at h3); (try simp only [cmE] at h3)); simp [cm]; omega
      · ((try simp only [evE, liE, letsOf, letU, snd] at h3); (try simp only [cmE] at h3)); simp; omega
      rintro _ _ _ ⟨rfl, x2, rfl, hx2⟩
      refine .env (by (try simp only [liE, letsOf, letU, snd, List.append_nil]); rfl) (.join (fun us mm => m' = mm ∧ ∃ v : Int, us = [.i v] ∧ (∀ (hi : i < a.length) (hj : j < b.length), v = dC ws gap a[i] b[j] + RA (dC ws gap) gap a b (i + 1) (j + 1)) ∧ (¬ (i < a.length ∧ j < b.length) → v = v1)) (.ite (fun h3 => ?_) (fun h3 => .again rfl ⟨rfl, v1, rfl, ?_, fun _ => rfl⟩)) ?_)
      · have h3 : x2 = true := h3
        obtain ⟨hi, hj⟩ := hx2.1 h3
        obtain ⟨r, hr, hrv⟩ := hnext (j + 1) hi hj
        have hd := distC_pos (x := a[i]) (y := b[j]) hcc
        have := B (i + 1) (j + 1)
        refine .loadW a i hi (fun g => hp.1.mono g.R) (.env (by (try simp only [liE, letsOf, letU, snd, List.append_nil]); rfl) (.loadW b j hj (fun g => hp.2.1.mono g.R) (.env (by (try simp only [liE, letsOf, letU, snd, List.append_nil]); rfl) (.callV (c_refDist a[i] b[j] pc cc ws gap (ha.at hi) (hb.at hj)) (fun g => hp.2.2.mono g.R) (.env (by (try simp only [liE, letsOf, letU, snd, List.append_nil]); rfl) (.loadT hT (i + 1) (j + 1) r _ hr hrv (.again rfl ⟨rfl, dC ws gap a[i] b[j] + RA (dC ws gap) gap a b (i + 1) (j + 1), ?_, fun _ _ => rfl, fun h => absurd ⟨hi, hj⟩ h⟩) rfl (by show ar .add .i64 _ _ = _; exact ei) (by rw [hlen]; rfl) rfl (by show ar .add .i64 _ _ = _; exact ej) rfl))))))
        (simp only [evE, liE, letsOf, letU, snd, Sh.uss, Sh.us, atAddr, map_add0, List.append_nil]); rw [addI (by omega) (by omega)]; rfl
      · have h3 : x2 = false := h3
        subst h3
        exact fun hi hj => by cases hx2.2 ⟨hi, hj⟩
      rintro _ _ _ ⟨rfl, v2, rfl, hv2⟩
      refine .env (by (try simp only [liE, letsOf, letU, snd, List.append_nil]); rfl) (.join (fun us mm => m' = mm ∧ ∃ x : Bool, us = [.b x] ∧ (x = true ↔ i < a.length ∧ (v2 < 0 ∨ gap + RA (dC ws gap) gap a b (i + 1) j < v2))) (.chk (by ((try simp only [evE, liE, letsOf, letU, snd]); (try simp only [cmE])); omega) (.ite (fun h3 => .ite (fun h4 => .again rfl ⟨rfl, true, rfl, ?_⟩) (fun h4 => ?_)) (fun h3 => .again rfl ⟨rfl, false, rfl, ?_⟩))) ?_)
      · ((try simp only [evE, liE, letsOf, letU, snd] at h3); (try simp only [cmE] at h3)); ((try simp only [evE, liE, letsOf, letU, snd] at h4); (try simp only [cmE] at h4)); simp; omega
      · ((try simp only [evE, liE, letsOf, letU, snd] at h3); (try simp only [cmE] at h3)); ((try simp only [evE, liE, letsOf, letU, snd] at h4); (try simp only [cmE] at h4))
        obtain ⟨r, hr, hrv⟩ := hnext j (by omega) hjl
        have := B (i + 1) j
        refine .loadT hT (i + 1) j r _ hr hrv (.again rfl ⟨rfl, cm .lss (gap + RA (dC ws gap) gap a b (i + 1) j) v2, ?_, ?_⟩) rfl (by show ar .add .i64 _ _ = _; exact ei) (by rw [hlen]; rfl) rfl rfl rfl
        · (simp only [evE, liE, letsOf, letU, snd, Sh.uss, Sh.us, atAddr, map_add0, List.append_nil]); rw [addI (by omega) (by omega)]
        · simp [cm]; omega
      · ((try simp only [evE, liE, letsOf, letU, snd] at h3); (try simp only [cmE] at h3)); simp; omega
      rintro _ _ _ ⟨rfl, x3, rfl, hx3⟩
      refine .env (by (try simp only [liE, letsOf, letU, snd, List.append_nil]); rfl) (.join (fun us mm => m' = mm ∧ ∃ v : Int, us = [.i v] ∧ (i < a.length ∧ (v2 < 0 ∨ gap + RA (dC ws gap) gap a b (i + 1) j < v2) → v = gap + RA (dC ws gap) gap a b (i + 1) j) ∧ (¬ (i < a.length ∧ (v2 < 0 ∨ gap + RA (dC ws gap) gap a b (i + 1) j < v2)) → v = v2)) (.ite (fun h3 => ?_) (fun h3 => .again rfl ⟨rfl, v2, rfl, ?_, fun _ => rfl⟩)) ?_)
      · have h3 : x3 = true := h3
        have hi := hx3.1 h3
        obtain ⟨r, hr, hrv⟩ := hnext j hi.1 hjl
        have := B (i + 1) j
        refine .loadT hT (i + 1) j r _ hr hrv (.again rfl ⟨rfl, gap + RA (dC ws gap) gap a b (i + 1) j, ?_, fun _ => rfl, fun h => absurd hi h⟩) rfl (by show ar .add .i64 _ _ = _; exact ei) (by rw [hlen]; rfl) rfl rfl rfl
        (simp only [evE, liE, letsOf, letU, snd, Sh.uss, Sh.us, atAddr, map_add0, List.append_nil]); rw [addI (by omega) (by omega)]
      · have h3 : x3 = false := h3
        subst h3
        exact fun h => by cases hx3.2 h
      rintro _ _ _ ⟨rfl, v3, rfl, hv3⟩
      have hcur : j < b.length → vs[j + 1]? = some (RA (dC ws gap) gap a b i (j + 1)) := fun h => hvs (j + 1) (Nat.le_refl _) h
      refine .env (by (try simp only [liE, letsOf, letU, snd, List.append_nil]); rfl) (.join (fun us mm => m' = mm ∧ ∃ x : Bool, us = [.b x] ∧ (x = true ↔ j < b.length ∧ (v3 < 0 ∨ gap + RA (dC ws gap) gap a b i (j + 1) < v3))) (.chk (by ((try simp only [evE, liE, letsOf, letU, snd]); (try simp only [cmE])); omega) (.ite (fun h3 => .ite (fun h4 => .again rfl ⟨rfl, true, rfl, ?_⟩) (fun h4 => ?_)) (fun h3 => .again rfl ⟨rfl, false, rfl, ?_⟩))) ?_)
      · ((try simp only [evE, liE, letsOf, letU, snd] at h3); (try simp only [cmE] at h3)); ((try simp only [evE, liE, letsOf, letU, snd] at h4); (try simp only [cmE] at h4)); simp; omega
      · ((try simp only [evE, liE, letsOf, letU, snd] at h3); (try simp only [cmE] at h3)); ((try simp only [evE, liE, letsOf, letU, snd] at h4); (try simp only [cmE] at h4))
        have := B i (j + 1)
        refine .loadT hT i (j + 1) _ _ hrow (hcur (by omega)) (.again rfl ⟨rfl, cm .lss (gap + RA (dC ws gap) gap a b i (j + 1)) v3, ?_, ?_⟩) rfl rfl (by rw [hlen]; rfl) rfl (by show ar .add .i64 _ _ = _; exact ej) rfl
        · (simp only [evE, liE, letsOf, letU, snd, Sh.uss, Sh.us, atAddr, map_add0, List.append_nil]); rw [addI (by omega) (by omega)]
        · simp [cm]; omega
      · ((try simp only [evE, liE, letsOf, letU, snd] at h3); (try simp only [cmE] at h3)); simp; omega
      rintro _ _ _ ⟨rfl, x4, rfl, hx4⟩
      refine .env (by (try simp only [liE, letsOf, letU, snd, List.append_nil]); rfl) (.join (fun us mm => m' = mm ∧ us = [.i (RA (dC ws gap) gap a b i j)]) (.ite (fun h3 => ?_) (fun h3 => .again rfl ⟨rfl, ?_⟩)) ?_)
      · have h3 : x4 = true := h3
        have hj := hx4.1 h3
        have := B i (j + 1)
        refine .loadT hT i (j + 1) _ _ hrow (hcur hj.1) (.again rfl ⟨rfl, ?_⟩) rfl rfl (by rw [hlen]; rfl) rfl (by show ar .add .i64 _ _ = _; exact ej) rfl
        (simp only [evE, liE, letsOf, letU, snd, Sh.uss, Sh.us, atAddr, map_add0, List.append_nil]); rw [addI (by omega) (by omega), fin4 hcc hv1 hv2 hv3 hil hjl (fun _ => rfl) (fun h => absurd hj h)]
      · have h3 : x4 = false := h3
        subst h3
        (simp only [evE, liE, letsOf, letU, snd, Sh.uss, Sh.us, atAddr, map_add0, List.append_nil]); rw [fin4 hcc hv1 hv2 hv3 hil hjl (fun h => by cases hx4.2 h) (fun _ => rfl)]
      rintro _ _ _ ⟨rfl, rfl⟩
      refine .env (by (try simp only [liE, letsOf, letU, snd, List.append_nil]); rfl) (.loadSl ((rs.set i ⟨some ⟨g8, 0, none⟩, b.length + 1, vs⟩).map RD.s) i (a.length + 1) (some ⟨g8, 0, none⟩) (b.length + 1) (b.length + 1) (by omega) (by rw [List.getElem?_map, hrow, Option.map_some, RD.s, hvl]) (fun g => hT.out.reads g) (.env (by (try simp only [liE, letsOf, letU, snd, List.append_nil]); rfl) ?_))
      have hin := hT.inn _ (List.mem_of_getElem? hrow)
      simp only [] at hin
      rw [hvl] at hin
      refine .storeR j (by omega) hin rfl rfl rfl (fun m3 g3 hg3 hr3 hs3 => .again rfl ⟨j, by omega, vs.set j (RA (dC ws gap) gap a b i j), by (simp only [evE, liE, letsOf, letU, snd, Sh.uss, Sh.us, atAddr, map_add0, List.append_nil]); rw [subI (by omega) (by omega)], by omega, by rw [List.length_set]; exact hvl, ?_, fun y h1 h2 => ?_⟩)
      · have := hT.setIn (i := i) (by omega) (j := j) (v := RA (dC ws gap) gap a b i j) (g := g3) (by rw [List.getElem_set_self]; exact hg3) (m' := m3) (by rw [List.getElem_set_self]; simp only []; rw [hvl]; exact hr3) hs3
        rw [List.set_set] at this
        simpa using this
      · rcases Nat.lt_or_ge j y with h | h
        · rw [List.getElem?_set_ne (by omega)]; exact hvs y (by omega) h2
        · obtain rfl : y = j := by omega
          rw [List.getElem?_set_self (by omega)]
    · (simp only [evE, liE, letsOf, letU, snd, Sh.uss, Sh.us, atAddr, map_add0, List.append_nil]); rw [subI (by omega) (by omega)]
    · rw [List.getElem?_set_ne (by omega)]; exact hlo k (by omega)
    · by_cases e : k = i
      · subst e
        rw [List.getElem?_set_self (by omega), Option.map_some]
        congr 1
        refine List.ext_getElem? fun j => ?_
        unfold restRow
        rw [List.getElem?_map]
        rcases Nat.lt_or_ge j (b.length + 1) with h | h
        · rw [hvs j (by omega) (by omega), List.getElem?_range h]; rfl
        · rw [List.getElem?_eq_none (by show vs.length ≤ j; omega), List.getElem?_eq_none (by simp; omega)]; rfl
      · rw [List.getElem?_set_ne (by omega)]; exact hhi k (by omega) hk2
  · refine List.ext_getElem? fun k => ?_
    rw [List.getElem?_map, List.getElem?_map]
    rcases Nat.lt_or_ge k (a.length + 1) with h | h
    · rw [hhi k (by omega) (by omega), List.getElem?_range h]; rfl
    · rw [List.getElem?_eq_none (by omega), List.getElem?_eq_none (by simp; omega)]; rfl
end Go.Proofs.YtedfogpnmpmggaaDoor
