/- EditAligns: what the law's code answers. -/
import Derived.Test.YtedfogpnmpmggaaDoorHo
set_option linter.unusedSimpArgs false
set_option linter.unusedVariables false
namespace Go.Sy
open Go Go.RowKit
theorem wcells_one' (l : List Snd) : ∀ u ∈ wcells l, u.oneCell' = true := fun u hu => by
  obtain ⟨x, _, hx⟩ := List.mem_flatMap.1 hu
  simp only [scell, List.mem_cons, List.not_mem_nil, or_false] at hx
  rcases hx with rfl | rfl <;> rfl
end Go.Sy
namespace Go.Proofs.YtedfogpnmpmggaaDoor
open Go Go.Sy Go.RowKit
theorem alignE_len (ws : List Int) (gap : Int) (a b : List Snd) : (alignE ws gap a b).length ≤ 64 := by
  unfold alignE
  split
  · simp
  · rename_i h
    obtain ⟨_, ⟨la, _⟩, lb, _⟩ := checkE_two (by simpa using h)
    have := algA_len (dC ws gap) gap a b (a.length + b.length) 0 0
    unfold algn
    omega
set_option maxHeartbeats 1000000 in
theorem l_EditAligns (A B : WD) (pc : Option Addr) (cc : Nat) (ws : List Int) (gap : Int) (ha : Wok A.w) (hb : Wok B.w) (hna : A.p = none → A.cap = 0) (hnb : B.p = none → B.cap = 0) :
    RetP Tryd.prog n_law17_EditAligns [.agg #[A.v, B.v, slv pc ws.length cc, .int .i64 gap]] (fun R => (WordAt R A.p A.w ∧ WordAt R B.p B.w ∧ CostsAt R pc ws) ∧ TabOk R) (.bool true) := by
  refine Fn.of S_law17_EditAligns mx [.p A.p, .i A.w.length, .i A.cap, .p B.p, .i B.w.length, .i B.cap, .p pc, .i ws.length, .i cc, .i gap] rfl rfl fun c hp => .alloc fun b0 => ?_
  obtain ⟨⟨hp1, hp2, hp3⟩, hp4⟩ := hp
  refine .callV (c_light A B pc cc ws.length gap) (fun _ => trivial) (.ite (fun h1 => .callV c_works17 (fun g => hp4.mono g.R) (.ret rfl rfl)) (fun h1 => .alloc fun b1 => ?_))
  replace h1 : (!decide (A.w.length ≤ 50 ∧ B.w.length ≤ 50 ∧ ws.length ≤ 50)) = false := h1
  rw [Bool.not_eq_false', decide_eq_true_eq] at h1
  obtain ⟨la, lb, _⟩ := h1
  refine .env (by (try simp only [liE, letsOf, letU, snd, List.append_nil]); rfl) (.appendLit (b0 := b1) (qx := A.p) (kx := A.w.length) (capx := A.cap) (news := wcells A.w) el22 (fun g => hp1.mono g.R) (wcells_len _) (wcells_one' _) hna (by simp [maxLen]; omega) (by omega) (fun q1 k1 m1 hr1 _ _ => ?_))
  refine .env (by (try simp only [liE, letsOf, letU, snd, List.append_nil]); rfl) (.alloc fun b2 => .appendLit (b0 := b2) (qx := B.p) (kx := B.w.length) (capx := B.cap) (news := wcells B.w) el22 (fun g => hp2.mono g.R) (wcells_len _) (wcells_one' _) hnb (by simp [maxLen]; omega) (by omega) (fun q2 k2 m2 hr2 _ hk2 => ?_))
  replace hr1 : A.w.length ≠ 0 → Row m2 56 2 q1 k1 A.w.length (wcells A.w) := fun h => (hr1 h).keep fun g _ hg => hk2 g hg
  clear hk2
  have hA : ∀ {m : Mem}, (A.w.length ≠ 0 → Row m 56 2 q1 k1 A.w.length (wcells A.w)) → ∀ {L : List Nat} {ρ : Env} {blks : List Blk}, Good c L m → WordAt (vw c L ρ blks m) q1 A.w := fun hr _ _ _ g => by
    by_cases h : A.w.length = 0
    · rw [List.length_eq_zero_iff.1 h]; exact fun i x hx => by simp [wcells] at hx
    · exact (hr h).reads g
  have hB : ∀ {m : Mem}, (B.w.length ≠ 0 → Row m 56 2 q2 k2 B.w.length (wcells B.w)) → ∀ {L : List Nat} {ρ : Env} {blks : List Blk}, Good c L m → WordAt (vw c L ρ blks m) q2 B.w := fun hr _ _ _ g => by
    by_cases h : B.w.length = 0
    · rw [List.length_eq_zero_iff.1 h]; exact fun i x hx => by simp [wcells] at hx
    · exact (hr h).reads g
  refine .env (by (try simp only [liE, letsOf, letU, snd, List.append_nil]); rfl) (.callV (c_editDist ⟨q1, k1, A.w⟩ ⟨q2, k2, B.w⟩ pc cc ws gap ha hb) (fun g => ⟨hA hr1 g, hB hr2 g, hp3.mono g.R, hp4.mono g.R⟩) ?_)
  refine .env (by (try simp only [liE, letsOf, letU, snd, List.append_nil]); rfl) (.callV (c_refDist17 A B pc cc ws gap ha hb) (fun g => ⟨hp1.mono g.R, hp2.mono g.R, hp3.mono g.R⟩) ?_)
  have hal := alignE_len ws gap A.w B.w
  have k3 := c_editAlign ⟨q1, k1, A.w⟩ ⟨q2, k2, B.w⟩ pc cc ws gap ha hb
  have k4 := c_refAlign A B pc cc ws gap ha hb
  simp only [] at k3
  generalize alignE ws gap A.w B.w = al at *
  refine .env (by (try simp only [liE, letsOf, letU, snd, List.append_nil]); rfl) (.callM k3 rfl rfl (fun g => ⟨hA hr1 g, hB hr2 g, hp3.mono g.R, hp4.mono g.R⟩) ?_)
  rintro v mq hf ⟨q3, k3', rfl, hr3⟩
  refine ⟨[.p q3, .i (al.length : Nat), .i (k3' : Nat), .i (checkE ws gap [A.w, B.w])], uOk_of rfl, rfl, ?_⟩
  replace hr1 : A.w.length ≠ 0 → Row (m2.join mq) 56 2 q1 k1 A.w.length (wcells A.w) := fun h => (hr1 h).joinL
  replace hr2 : B.w.length ≠ 0 → Row (m2.join mq) 56 2 q2 k2 B.w.length (wcells B.w) := fun h => (hr2 h).joinL
  replace hr3 := hr3.joinR fun b hb => (hf b hb).1
  generalize Mem.join m2 mq = m at *
  clear hf k3 m2
  refine .env (by (try simp only [liE, letsOf, letU, snd, List.append_nil]); rfl) (.callM k4 rfl rfl (fun g => ⟨hp1.mono g.R, hp2.mono g.R, hp3.mono g.R⟩) ?_)
  rintro v mq hf ⟨q4, k4', rfl, hr4⟩
  refine ⟨[.p q4, .i (al.length : Nat), .i (k4' : Nat), .i (checkE ws gap [A.w, B.w])], uOk_of rfl, rfl, ?_⟩
  replace hr1 : A.w.length ≠ 0 → Row (m.join mq) 56 2 q1 k1 A.w.length (wcells A.w) := fun h => (hr1 h).joinL
  replace hr2 : B.w.length ≠ 0 → Row (m.join mq) 56 2 q2 k2 B.w.length (wcells B.w) := fun h => (hr2 h).joinL
  replace hr3 := hr3.joinL (mq := mq)
  replace hr4 := hr4.joinR fun b hb => (hf b hb).1
  generalize Mem.join m mq = m2 at *
  clear hf k4 m
  refine .env (by (try simp only [liE, letsOf, letU, snd, List.append_nil]); rfl) (.callV (c_editWays ⟨q1, k1, A.w⟩ ⟨q2, k2, B.w⟩ pc cc ws gap ha hb) (fun g => ⟨hA hr1 g, hB hr2 g, hp3.mono g.R, hp4.mono g.R⟩) ?_)
  refine .env (by (try simp only [liE, letsOf, letU, snd, List.append_nil]); rfl) (.callV (c_refWays A B pc cc ws gap ha hb) (fun g => ⟨hp1.mono g.R, hp2.mono g.R, hp3.mono g.R⟩) ?_)
  refine .env (by (try simp only [liE, letsOf, letU, snd, List.append_nil]); rfl) (.callV (c_editRatio ⟨q1, k1, A.w⟩ ⟨q2, k2, B.w⟩ pc cc ws gap ha hb) (fun g => ⟨hA hr1 g, hB hr2 g, hp3.mono g.R, hp4.mono g.R⟩) (.alloc fun b3 => ?_))
  refine .env (by (try simp only [liE, letsOf, letU, snd, List.append_nil]); rfl) (.callV (c_refRatio A B pc cc ws gap ha hb) (fun g => ⟨hp1.mono g.R, hp2.mono g.R, hp3.mono g.R⟩) (.alloc fun b4 => ?_))
  refine .env (by (try simp only [liE, letsOf, letU, snd, List.append_nil]); rfl) (.no ?_ (.callV (c_same q3 q4 k3' k4' al al (by omega)) (fun g => ⟨hr3.reads g, hr4.reads g⟩) ?_))
  · ((try simp only [evE, liE, letsOf, letU, snd]); (try simp only [cmE])) <;> simp
  refine .env (by (try simp only [liE, letsOf, letU, snd, List.append_nil]); rfl) (.no ?_ (.callV (c_equal q1 A.p k1 A.cap A.w A.w (by omega)) (fun g => ⟨hA hr1 g, hp1.mono g.R⟩) ?_))
  · ((try simp only [evE, liE, letsOf, letU, snd]); (try simp only [cmE])) <;> simp
  refine .env (by (try simp only [liE, letsOf, letU, snd, List.append_nil]); rfl) (.yes ?_ (.callV (c_equal q2 B.p k2 B.cap B.w B.w (by omega)) (fun g => ⟨hB hr2 g, hp2.mono g.R⟩) (.env (by (try simp only [liE, letsOf, letU, snd, List.append_nil]); rfl) (.yes ?_ (.callV c_works17 (fun g => hp4.mono g.R) (.ret rfl rfl))))))
  · ((try simp only [evE, liE, letsOf, letU, snd]); (try simp only [cmE])) <;> simp
  · ((try simp only [evE, liE, letsOf, letU, snd]); (try simp only [cmE])) <;> simp
end Go.Proofs.YtedfogpnmpmggaaDoor
