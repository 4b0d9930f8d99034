/- EditLists: what the law's code answers. -/
import Derived.Test.YtedfogpnmpmggaaDoorHj
import Derived.Test.YtedfogpnmpmggaaDoorHg
set_option linter.unusedSimpArgs false
set_option linter.unusedVariables false
namespace Go.Sy
open Go Go.RowKit
/-- The first i words, each k times. -/
def rep (k : Nat) (l : List WD) (i : Nat) : List WD := (l.take i).flatMap (List.replicate k)
theorem rep_len {k : Nat} {l : List WD} {i : Nat} (h : i ≤ l.length) : (rep k l i).length = i * k := by
  unfold rep
  rw [List.length_flatMap]
  simp only [List.length_replicate]
  rw [List.map_const', List.sum_replicate_nat, List.length_take]
  congr 1; omega
theorem rep_succ {k : Nat} {l : List WD} {i : Nat} (h : i < l.length) : rep k l (i + 1) = rep k l i ++ List.replicate k l[i] := by
  unfold rep
  rw [List.take_succ_eq_append_getElem h, List.flatMap_append]
  simp
theorem rep_mem {k : Nat} {l : List WD} {i : Nat} {x : WD} (h : x ∈ rep k l i) : x ∈ l := by
  unfold rep at h
  rw [List.mem_flatMap] at h
  obtain ⟨y, hy, hx⟩ := h
  rw [(List.mem_replicate.1 hx).2]
  exact List.mem_of_mem_take hy
end Go.Sy
namespace Go.Proofs.YtedfogpnmpmggaaDoor
open Go Go.Sy Go.RowKit
set_option maxHeartbeats 1000000 in
theorem l_EditLists (W : WD) (ql : Option Addr) (cl : Nat) (l : List WD) (pc : Option Addr) (cc : Nat) (ws : List Int) (gap times : Int) (hw : Wok W.w) (hl : ∀ x ∈ l, Wok x.w) :
    RetP Tryd.prog n_law17_EditLists [W.v, slv ql l.length cl, costs pc ws.length cc gap, .int .u8 times] (fun R => WordAt R W.p W.w ∧ WordsAt R ql l ∧ CostsAt R pc ws ∧ TabOk R) (.bool true) := by
  obtain ⟨pw, cw, w⟩ := W
  simp only [] at hw
  refine Fn.of S_law17_EditLists mx [.p pw, .i w.length, .i cw, .p ql, .i l.length, .i cl, .p pc, .i ws.length, .i cc, .i gap, .i times] rfl rfl fun c hp => .alloc fun b0 => ?_
  obtain ⟨hp1, hp2, hp3, hp4⟩ := hp
  refine .chk (by ((try simp only [evE, liE, letsOf, letU, snd]); (try simp only [cmE])); omega) (.ite (fun h1 => .callV c_works17 (fun g => hp4.mono g.R) (.ret rfl rfl)) (fun h1 => .chk (by ((try simp only [evE, liE, letsOf, letU, snd]); (try simp only [cmE])); omega) (.ite (fun h2 => .callV c_works17 (fun g => hp4.mono g.R) (.ret rfl rfl)) (fun h2 => .chk (by ((try simp only [evE, liE, letsOf, letU, snd]); (try simp only [cmE])); omega) (.ite (fun h3 => .callV c_works17 (fun g => hp4.mono g.R) (.ret rfl rfl)) (fun h3 => ?_)))))) <;> ((try simp only [evE, liE, letsOf, letU, snd] at h1); (try simp only [cmE] at h1))
  clear h2 h3
  generalize hK : (if 240 ≤ times then 40 else 1) = K
  have hK1 : K = 40 ∨ K = 1 := by rw [← hK]; split <;> simp
  have hb : ∀ i, i ≤ l.length → i * K ≤ 320 := fun i hi => by
    have : i * K ≤ 8 * 40 := Nat.mul_le_mul (by omega) (by omega)
    omega
  refine .loop (fun n us m => ∃ (b : Bool) (i : Nat) (q : Option Addr) (cq : Nat), us = [.b b, .p q, .i (i * K : Nat), .i (cq : Nat), .i i] ∧ n + i = l.length ∧ Row m 22 1 q cq (i * K) ((rep K l i).map WD.v)) l.length ⟨false, 0, none, 0, by rw [Nat.zero_mul]; rfl, rfl, by simpa [rep] using Row.nil _ _ _⟩ ?_
  rintro n _ m _ ⟨b, i, q, cq, rfl, hn, hrow⟩
  refine .chk (by ((try simp only [evE, liE, letsOf, letU, snd]); (try simp only [cmE])); omega) (.ite (fun h2 => ?_) (fun h2 => ?_)) <;> ((try simp only [evE, liE, letsOf, letU, snd] at h2); (try simp only [cmE] at h2))
  · have hi : i < l.length := by omega
    have ei := add_i64 i (by omega)
    have hb1 := hb (i + 1) (by omega)
    rw [Nat.add_mul, Nat.one_mul] at hb1
    refine .loadWD l i hi (fun g => hp2.1.mono g.R) (.env (by (try simp only [liE, letsOf, letU, snd, List.append_nil]); rfl) (.chk (by ((try simp only [evE, liE, letsOf, letU, snd]); (try simp only [cmE])); omega) (.ite (fun h3 => .callV c_works17 (fun g => hp4.mono g.R) (.ret rfl rfl)) (fun h3 => ?_))))
    clear h3
    refine .join (fun us mm => m = mm ∧ us = [.i (K : Int)]) (.ite (fun h3 => .again rfl ⟨rfl, ?_⟩) (fun h3 => .again rfl ⟨rfl, ?_⟩)) ?_
    · ((try simp only [evE, liE, letsOf, letU, snd] at h3); (try simp only [cmE] at h3)); (simp only [evE, liE, letsOf, letU, snd, Sh.uss, Sh.us, atAddr, map_add0, List.append_nil]); rw [← hK, if_pos (by omega)]; rfl
    · ((try simp only [evE, liE, letsOf, letU, snd] at h3); (try simp only [cmE] at h3)); (simp only [evE, liE, letsOf, letU, snd, Sh.uss, Sh.us, atAddr, map_add0, List.append_nil]); rw [← hK, if_neg (by omega)]; rfl
    rintro _ _ _ ⟨rfl, rfl⟩
    refine .env (by (try simp only [liE, letsOf, letU, snd, List.append_nil]); rfl) (.loop (fun n' us m => ∃ (j : Nat) (q : Option Addr) (cq : Nat), us = [.p q, .i (i * K + j : Nat), .i (cq : Nat), .i j] ∧ n' + j = K ∧ Row m 22 1 q cq (i * K + j) ((rep K l i ++ List.replicate j l[i]).map WD.v)) K ⟨0, q, cq, by (simp only [evE, liE, letsOf, letU, snd, Sh.uss, Sh.us, atAddr, map_add0, List.append_nil]); rfl, by omega, by simpa using hrow⟩ ?_)
    clear hrow
    rintro n' _ m _ ⟨j, q, cq, rfl, hn', hrow⟩
    refine .env (by (try simp only [liE, letsOf, letU, snd, List.append_nil]); rfl) (.ite (fun h4 => ?_) (fun h4 => .again rfl ⟨n - 1, by omega, b, i + 1, q, cq, ?_, by omega, ?_⟩)) <;> ((try simp only [evE, liE, letsOf, letU, snd] at h4); (try simp only [cmE] at h4))
    · have ej := add_i64 j (by omega)
      refine .loadWD l i hi (fun g => hp2.1.mono g.R) (.env (by (try simp only [liE, letsOf, letU, snd, List.append_nil]); rfl) (.alloc fun b1 => .append (q := q) (cap := cq) (n := i * K + j) (qx := some ⟨b1, 0, none⟩) (kx := 1) (capx := 1) (news := [l[i].v]) el63 hrow (fun g => g.cells (j := 1) rfl rfl rfl) (by simp) (by simp [WD.v, slv_eq, Value.oneCell']) (fun h => by cases h) (by simp [maxLen]; omega) (by omega) (fun q' cq' m2 hr' _ _ => .again rfl ⟨n' - 1, by omega, j + 1, q', cq', ?_, by omega, ?_⟩)))
      · (simp only [evE, liE, letsOf, letU, snd, Sh.uss, Sh.us, atAddr, map_add0, List.append_nil]); rw [ej]; rfl
      · rw [List.replicate_succ', ← List.append_assoc, List.map_append]; exact hr'
    · (simp only [evE, liE, letsOf, letU, snd, Sh.uss, Sh.us, atAddr, map_add0, List.append_nil]); rw [ei, show i * K + j = (i + 1) * K by rw [Nat.add_mul, Nat.one_mul]; omega]
    · rw [show i * K + j = (i + 1) * K by rw [Nat.add_mul, Nat.one_mul]; omega, show j = K by omega] at hrow
      rw [rep_succ hi]; exact hrow
  obtain rfl : i = l.length := by omega
  have hb1 := hb l.length (Nat.le_refl _)
  have hal := rep_len (k := K) (Nat.le_refl l.length)
  have hmem : ∀ x ∈ rep K l l.length, x ∈ l := fun x hx => rep_mem hx
  rw [← hal] at hrow hb1 ⊢
  generalize rep K l l.length = al at *
  have hcq := hrow.cap_le
  clear hb hal hK hK1 h2 hn
  have hall : ∀ {m' : Mem}, Row m' 22 1 q cq al.length (al.map WD.v) → Good c [b0] m' → ∀ {ρ : Env} {blks : List Blk}, WordsAt (vw c [b0] ρ blks m') q al := fun hr g => ⟨hr.reads g, fun x hx => (hp2.2 x (hmem x hx)).mono g.R⟩
  have hok : ∀ x ∈ al, Wok x.w := fun x hx => hl x (hmem x hx)
  have k1 := c_editMatrix q cq al pc cc ws gap hok (by omega) hcq
  have k2 := c_refMatrix q cq al pc cc ws gap hok (by omega)
  have k3 := c_editNear ⟨pw, cw, w⟩ q cq al pc cc ws gap hw hok (by omega)
  have k4 := c_refNear ⟨pw, cw, w⟩ q cq al pc cc ws gap hw hok (by omega)
  generalize hM : matE ws gap (al.map (·.w)) = M at k1 k2
  have hML : M.1.length ≤ 4096 := by
    rw [← hM]
    unfold matE
    split
    · simp
    · split
      · simp
      · split
        · simp
        · rename_i h _; rw [mt_len]
          have := Nat.mul_le_mul (show (al.map (·.w)).length ≤ 64 by omega) (show (al.map (·.w)).length ≤ 64 by omega)
          omega
  refine .chk (by ((try simp only [evE, liE, letsOf, letU, snd]); (try simp only [cmE])); omega) (.ite (fun h3 => ?_) (fun h3 => .chk (by ((try simp only [evE, liE, letsOf, letU, snd]); (try simp only [cmE])); omega) ?_))
  · refine .callM k1 rfl rfl (fun g => ⟨hall hrow g, hp3.mono g.R, hp4.mono g.R⟩) ?_
    rintro v mq1 hf1 ⟨q1, cq1, rfl, hr1⟩
    refine ⟨[.p q1, .i (M.1.length : Nat), .i (cq1 : Nat), .i M.2], uOk_of rfl, rfl, ?_⟩
    replace hrow := hrow.joinL (mq := mq1)
    replace hr1 := hr1.joinR fun b hb => (hf1 b hb).1
    generalize Mem.join _ mq1 = m at *
    clear hf1
    refine .env (by (try simp only [liE, letsOf, letU, snd, List.append_nil]); rfl) (.callM k2 rfl rfl (fun g => ⟨hall hrow g, hp3.mono g.R⟩) ?_)
    rintro v mq2 hf2 ⟨q2, cq2, rfl, hr2⟩
    refine ⟨[.p q2, .i (M.1.length : Nat), .i (cq2 : Nat), .i M.2], uOk_of rfl, rfl, ?_⟩
    replace hrow := hrow.joinL (mq := mq2)
    replace hr1 := hr1.joinL (mq := mq2)
    replace hr2 := hr2.joinR fun b hb => (hf2 b hb).1
    generalize Mem.join _ mq2 = m at *
    clear hf2
    refine .env (by (try simp only [liE, letsOf, letU, snd, List.append_nil]); rfl) (.no (by ((try simp only [evE, liE, letsOf, letU, snd]); (try simp only [cmE])) <;> simp) (.chk (by ((try simp only [evE, liE, letsOf, letU, snd]); (try simp only [cmE])); omega) (.chk (by ((try simp only [evE, liE, letsOf, letU, snd]); (try simp only [cmE])); omega) (.no (by ((try simp only [evE, liE, letsOf, letU, snd]); (try simp only [cmE])) <;> simp) ?_))))
    refine .loop (fun n us m' => ∃ (b' : Bool) (i : Nat), us = [.b b', .i i] ∧ n + i = M.1.length ∧ m = m') M.1.length ⟨b, 0, rfl, by omega, rfl⟩ ?_
    rintro n _ _ _ ⟨b', i, rfl, hn, rfl⟩
    refine .env (by (try simp only [liE, letsOf, letU, snd, List.append_nil]); rfl) (.chk (by ((try simp only [evE, liE, letsOf, letU, snd]); (try simp only [cmE])); omega) (.ite (fun h4 => ?_) (fun h4 => ?_))) <;> ((try simp only [evE, liE, letsOf, letU, snd] at h4); (try simp only [cmE] at h4))
    · have hi : i < M.1.length := by omega
      have ei := add_i64 i (by omega)
      refine .elem1 (.int .i64 M.1[i]) (M.1.map (.int .i64)) i M.1.length rfl rfl hi (fun g => hr1.reads g) (by simp [hi]) (.env (by (try simp only [liE, letsOf, letU, snd, List.append_nil]); rfl) (.elem1 (.int .i64 M.1[i]) (M.1.map (.int .i64)) i M.1.length rfl rfl hi (fun g => hr2.reads g) (by simp [hi]) (.env (by (try simp only [liE, letsOf, letU, snd, List.append_nil]); rfl) (.no (by ((try simp only [evE, liE, letsOf, letU, snd]); (try simp only [cmE])) <;> simp) (.again rfl ⟨n - 1, by omega, b', i + 1, ?_, by omega, rfl⟩)))))
      (simp only [evE, liE, letsOf, letU, snd, Sh.uss, Sh.us, atAddr, map_add0, List.append_nil]); rw [ei]
    · refine .env (by (try simp only [liE, letsOf, letU, snd, List.append_nil]); rfl) (.callV k3 (fun g => ⟨hp1.mono g.R, hall hrow g, hp3.mono g.R, hp4.mono g.R⟩) (.env (by (try simp only [liE, letsOf, letU, snd, List.append_nil]); rfl) (.callV k4 (fun g => ⟨hp1.mono g.R, hall hrow g, hp3.mono g.R⟩) (.env (by (try simp only [liE, letsOf, letU, snd, List.append_nil]); rfl) (.yes ?_ (.callV c_works17 (fun g => hp4.mono g.R) (.ret rfl rfl)))))))
      ((try simp only [evE, liE, letsOf, letU, snd]); (try simp only [cmE])) <;> simp
  · refine .join (fun us m' => ∃ b' : Bool, us = [.b b'] ∧ Row m' 22 1 q cq al.length (al.map WD.v)) (.ite (fun h5 => ?_) (fun h5 => .again rfl ⟨b, rfl, hrow⟩)) ?_
    · refine .callM k1 rfl rfl (fun g => ⟨hall hrow g, hp3.mono g.R, hp4.mono g.R⟩) ?_
      rintro v mq1 hf1 ⟨q1, cq1, rfl, hr1⟩
      refine ⟨[.p q1, .i (M.1.length : Nat), .i (cq1 : Nat), .i M.2], uOk_of rfl, rfl, ?_⟩
      replace hrow := hrow.joinL (mq := mq1)
      replace hr1 := hr1.joinR fun b hb => (hf1 b hb).1
      generalize Mem.join _ mq1 = m at *
      clear hf1
      refine .env (by (try simp only [liE, letsOf, letU, snd, List.append_nil]); rfl) (.callM k2 rfl rfl (fun g => ⟨hall hrow g, hp3.mono g.R⟩) ?_)
      rintro v mq2 hf2 ⟨q2, cq2, rfl, hr2⟩
      refine ⟨[.p q2, .i (M.1.length : Nat), .i (cq2 : Nat), .i M.2], uOk_of rfl, rfl, ?_⟩
      replace hrow := hrow.joinL (mq := mq2)
      replace hr1 := hr1.joinL (mq := mq2)
      replace hr2 := hr2.joinR fun b hb => (hf2 b hb).1
      generalize Mem.join _ mq2 = m at *
      clear hf2
      refine .env (by (try simp only [liE, letsOf, letU, snd, List.append_nil]); rfl) (.no (by ((try simp only [evE, liE, letsOf, letU, snd]); (try simp only [cmE])) <;> simp) (.chk (by ((try simp only [evE, liE, letsOf, letU, snd]); (try simp only [cmE])); omega) (.chk (by ((try simp only [evE, liE, letsOf, letU, snd]); (try simp only [cmE])); omega) (.no (by ((try simp only [evE, liE, letsOf, letU, snd]); (try simp only [cmE])) <;> simp) ?_))))
      refine .loop (fun n us m' => ∃ (b' : Bool) (i : Nat), us = [.b b', .i i] ∧ n + i = M.1.length ∧ m = m') M.1.length ⟨b, 0, rfl, by omega, rfl⟩ ?_
      rintro n _ _ _ ⟨b', i, rfl, hn, rfl⟩
      refine .env (by (try simp only [liE, letsOf, letU, snd, List.append_nil]); rfl) (.chk (by ((try simp only [evE, liE, letsOf, letU, snd]); (try simp only [cmE])); omega) (.ite (fun h4 => ?_) (fun h4 => ?_))) <;> ((try simp only [evE, liE, letsOf, letU, snd] at h4); (try simp only [cmE] at h4))
      · have hi : i < M.1.length := by omega
        have ei := add_i64 i (by omega)
        refine .elem1 (.int .i64 M.1[i]) (M.1.map (.int .i64)) i M.1.length rfl rfl hi (fun g => hr1.reads g) (by simp [hi]) (.env (by (try simp only [liE, letsOf, letU, snd, List.append_nil]); rfl) (.elem1 (.int .i64 M.1[i]) (M.1.map (.int .i64)) i M.1.length rfl rfl hi (fun g => hr2.reads g) (by simp [hi]) (.env (by (try simp only [liE, letsOf, letU, snd, List.append_nil]); rfl) (.no (by ((try simp only [evE, liE, letsOf, letU, snd]); (try simp only [cmE])) <;> simp) (.again rfl ⟨n - 1, by omega, b', i + 1, ?_, by omega, rfl⟩)))))
        (simp only [evE, liE, letsOf, letU, snd, Sh.uss, Sh.us, atAddr, map_add0, List.append_nil]); rw [ei]
      · exact .again rfl ⟨b', rfl, hrow⟩
    · rintro _ m _ ⟨b', rfl, hrow⟩
      refine .env (by (try simp only [liE, letsOf, letU, snd, List.append_nil]); rfl) (.callV k3 (fun g => ⟨hp1.mono g.R, hall hrow g, hp3.mono g.R, hp4.mono g.R⟩) (.env (by (try simp only [liE, letsOf, letU, snd, List.append_nil]); rfl) (.callV k4 (fun g => ⟨hp1.mono g.R, hall hrow g, hp3.mono g.R⟩) (.env (by (try simp only [liE, letsOf, letU, snd, List.append_nil]); rfl) (.yes ?_ (.callV c_works17 (fun g => hp4.mono g.R) (.ret rfl rfl)))))))
      ((try simp only [evE, liE, letsOf, letU, snd]); (try simp only [cmE])) <;> simp
end Go.Proofs.YtedfogpnmpmggaaDoor
