/- Chapter 30: the examples hold. Printed by works30.py. -/
import Derived.Test.YtpbbnmjkbfbelaaDoorJx
set_option linter.unusedSimpArgs false
set_option linter.unusedVariables false
namespace Go.Sy
open Go Go.RowKit
theorem spell_ok (bs : List UInt8) : Wok (spellW bs) := fun s hs => by
  obtain ⟨b, _, rfl⟩ := List.mem_map.1 hs
  unfold spellB
  split
  · exact ⟨by decide, by decide⟩
  · split
    · exact ⟨by decide, by decide⟩
    · split
      · exact ⟨by decide, by decide⟩
      · split <;> exact ⟨by decide, by decide⟩
end Go.Sy
namespace Go.Proofs.YtpbbnmjkbfbelaaDoor
open Go Go.Sy Go.RowKit
set_option maxHeartbeats 4000000 in
theorem c_works : RetP Tryd.prog n_law30_works [] VarsOk (.bool true) := by
  refine Fn.of S_law30_works mx [] rfl rfl fun c hV => ?_
  generalize hm0 : Mem.emp = m0
  clear hm0
  refine .callM (c_spell [112, 97, 116] (by decide)) rfl rfl (fun _ => trivial) ?_
  rintro v mq hfr ⟨q1, k1, rfl, r1⟩
  refine ⟨[.p q1, .i (spellW [112, 97, 116]).length, .i k1], ⟨_, _, _, rfl⟩, (slv_fresh _ _ _ _ _).symm, .env (by (try simp only [liE, letsOf, letU, snd, List.append_nil]); rfl) ?_⟩
  have h1 := r1.joinR (m := m0) fun b hb => (hfr b hb).1
  generalize m0.join mq = m1 at *
  clear hfr
  clear r1
  refine .callM (c_spell [112, 105] (by decide)) rfl rfl (fun _ => trivial) ?_
  rintro v mq hfr ⟨q2, k2, rfl, r2⟩
  refine ⟨[.p q2, .i (spellW [112, 105]).length, .i k2], ⟨_, _, _, rfl⟩, (slv_fresh _ _ _ _ _).symm, .env (by (try simp only [liE, letsOf, letU, snd, List.append_nil]); rfl) ?_⟩
  replace h1 := h1.joinL (mq := mq)
  have h2 := r2.joinR (m := m1) fun b hb => (hfr b hb).1
  generalize m1.join mq = m2 at *
  clear hfr
  clear r2
  refine .callM (c_spell [116, 97, 116] (by decide)) rfl rfl (fun _ => trivial) ?_
  rintro v mq hfr ⟨q3, k3, rfl, r3⟩
  refine ⟨[.p q3, .i (spellW [116, 97, 116]).length, .i k3], ⟨_, _, _, rfl⟩, (slv_fresh _ _ _ _ _).symm, .env (by (try simp only [liE, letsOf, letU, snd, List.append_nil]); rfl) ?_⟩
  replace h1 := h1.joinL (mq := mq)
  replace h2 := h2.joinL (mq := mq)
  have h3 := r3.joinR (m := m2) fun b hb => (hfr b hb).1
  generalize m2.join mq = m3 at *
  clear hfr
  clear r3
  have eX : oneW (spellW [112, 97, 116]) (spellW [112, 105]) (spellW [116, 97, 116]) (solveW (spellW [112, 97, 116]) (spellW [112, 105]) (spellW [116, 97, 116])) = (spellW [116, 105], true, 0) := by kernel_rfl
  have cX := c_Solve ⟨q1, k1, spellW [112, 97, 116]⟩ ⟨q2, k2, spellW [112, 105]⟩ ⟨q3, k3, spellW [116, 97, 116]⟩ (spell_ok [112, 97, 116]) (spell_ok [112, 105]) (spell_ok [116, 97, 116]) h1.ok h2.ok h3.ok
  rw [eX] at cX
  refine .callM cX rfl rfl (fun g => ⟨h1.reads g, h2.reads g, h3.reads g, hV.mono g.R⟩) ?_
  rintro v mq hfr ⟨qX, kX, rfl, rX⟩
  refine ⟨[.p qX, .i (spellW [116, 105]).length, .i kX, .b true, .i 0], uOk_of rfl, (res3_fresh _ _ _ _ _ _ _).symm, .env (by (try simp only [liE, letsOf, letU, snd, List.append_nil]); rfl) ?_⟩
  replace h1 := h1.joinL (mq := mq)
  replace h2 := h2.joinL (mq := mq)
  replace h3 := h3.joinL (mq := mq)
  have hX := rX.joinR (m := m3) fun b hb => (hfr b hb).1
  generalize m3.join mq = m4 at *
  clear hfr
  clear rX cX eX
  clear h1 h2 h3
  refine .callM (c_spell [112, 97] (by decide)) rfl rfl (fun _ => trivial) ?_
  rintro v mq hfr ⟨q1, k1, rfl, r1⟩
  refine ⟨[.p q1, .i (spellW [112, 97]).length, .i k1], ⟨_, _, _, rfl⟩, (slv_fresh _ _ _ _ _).symm, .env (by (try simp only [liE, letsOf, letU, snd, List.append_nil]); rfl) ?_⟩
  replace hX := hX.joinL (mq := mq)
  have h1 := r1.joinR (m := m4) fun b hb => (hfr b hb).1
  generalize m4.join mq = m5 at *
  clear hfr
  clear r1
  refine .callM (c_spell [97, 112, 97] (by decide)) rfl rfl (fun _ => trivial) ?_
  rintro v mq hfr ⟨q2, k2, rfl, r2⟩
  refine ⟨[.p q2, .i (spellW [97, 112, 97]).length, .i k2], ⟨_, _, _, rfl⟩, (slv_fresh _ _ _ _ _).symm, .env (by (try simp only [liE, letsOf, letU, snd, List.append_nil]); rfl) ?_⟩
  replace hX := hX.joinL (mq := mq)
  replace h1 := h1.joinL (mq := mq)
  have h2 := r2.joinR (m := m5) fun b hb => (hfr b hb).1
  generalize m5.join mq = m6 at *
  clear hfr
  clear r2
  refine .callM (c_spell [116, 97] (by decide)) rfl rfl (fun _ => trivial) ?_
  rintro v mq hfr ⟨q3, k3, rfl, r3⟩
  refine ⟨[.p q3, .i (spellW [116, 97]).length, .i k3], ⟨_, _, _, rfl⟩, (slv_fresh _ _ _ _ _).symm, .env (by (try simp only [liE, letsOf, letU, snd, List.append_nil]); rfl) ?_⟩
  replace hX := hX.joinL (mq := mq)
  replace h1 := h1.joinL (mq := mq)
  replace h2 := h2.joinL (mq := mq)
  have h3 := r3.joinR (m := m6) fun b hb => (hfr b hb).1
  generalize m6.join mq = m7 at *
  clear hfr
  clear r3
  have eY : oneW (spellW [112, 97]) (spellW [97, 112, 97]) (spellW [116, 97]) (frontW (spellW [112, 97]) (spellW [97, 112, 97]) (spellW [116, 97])) = (spellW [97, 116, 97], true, 0) := by kernel_rfl
  have cY := c_Front ⟨q1, k1, spellW [112, 97]⟩ ⟨q2, k2, spellW [97, 112, 97]⟩ ⟨q3, k3, spellW [116, 97]⟩ (spell_ok [112, 97]) (spell_ok [97, 112, 97]) (spell_ok [116, 97]) h1.ok h2.ok h3.ok
  rw [eY] at cY
  refine .callM cY rfl rfl (fun g => ⟨h1.reads g, h2.reads g, h3.reads g, hV.mono g.R⟩) ?_
  rintro v mq hfr ⟨qY, kY, rfl, rY⟩
  refine ⟨[.p qY, .i (spellW [97, 116, 97]).length, .i kY, .b true, .i 0], uOk_of rfl, (res3_fresh _ _ _ _ _ _ _).symm, .env (by (try simp only [liE, letsOf, letU, snd, List.append_nil]); rfl) ?_⟩
  replace hX := hX.joinL (mq := mq)
  replace h1 := h1.joinL (mq := mq)
  replace h2 := h2.joinL (mq := mq)
  replace h3 := h3.joinL (mq := mq)
  have hY := rY.joinR (m := m7) fun b hb => (hfr b hb).1
  generalize m7.join mq = m8 at *
  clear hfr
  clear rY cY eY
  clear h1 h2 h3
  refine .callM (c_pair [112, 97] [112, 105] (by decide) (by decide)) rfl rfl (fun _ => trivial) ?_
  rintro v mq hfr ⟨q1, k1, q1', k1', rfl, r1, r1'⟩
  refine ⟨[.p q1, .i (spellW [112, 97]).length, .i k1, .p q1', .i (spellW [112, 105]).length, .i k1'], uOk_of rfl, (agg2_fresh _ _ _ _ _ _ _ _).symm, .env (by (try simp only [liE, letsOf, letU, snd, List.append_nil]); rfl) ?_⟩
  replace hX := hX.joinL (mq := mq)
  replace hY := hY.joinL (mq := mq)
  have h1 := r1.joinR (m := m8) fun b hb => (hfr b hb).1
  have h1' := r1'.joinR (m := m8) fun b hb => (hfr b hb).1
  generalize m8.join mq = m9 at *
  clear hfr
  clear r1 r1'
  refine .callM (c_pair [116, 97] [116, 97, 116] (by decide) (by decide)) rfl rfl (fun _ => trivial) ?_
  rintro v mq hfr ⟨q2, k2, q2', k2', rfl, r2, r2'⟩
  refine ⟨[.p q2, .i (spellW [116, 97]).length, .i k2, .p q2', .i (spellW [116, 97, 116]).length, .i k2'], uOk_of rfl, (agg2_fresh _ _ _ _ _ _ _ _).symm, .env (by (try simp only [liE, letsOf, letU, snd, List.append_nil]); rfl) ?_⟩
  replace hX := hX.joinL (mq := mq)
  replace hY := hY.joinL (mq := mq)
  replace h1 := h1.joinL (mq := mq)
  replace h1' := h1'.joinL (mq := mq)
  have h2 := r2.joinR (m := m9) fun b hb => (hfr b hb).1
  have h2' := r2'.joinR (m := m9) fun b hb => (hfr b hb).1
  generalize m9.join mq = m10 at *
  clear hfr
  clear r2 r2'
  refine .alloc fun b0 => ?_
  refine .callM (c_spell [97, 112] (by decide)) rfl rfl (fun _ => trivial) ?_
  rintro v mq hfr ⟨q3, k3, rfl, r3⟩
  refine ⟨[.p q3, .i (spellW [97, 112]).length, .i k3], ⟨_, _, _, rfl⟩, (slv_fresh _ _ _ _ _).symm, .env (by (try simp only [liE, letsOf, letU, snd, List.append_nil]); rfl) ?_⟩
  replace hX := hX.joinL (mq := mq)
  replace hY := hY.joinL (mq := mq)
  replace h1 := h1.joinL (mq := mq)
  replace h1' := h1'.joinL (mq := mq)
  replace h2 := h2.joinL (mq := mq)
  replace h2' := h2'.joinL (mq := mq)
  have h3 := r3.joinR (m := m10) fun b hb => (hfr b hb).1
  generalize m10.join mq = m11 at *
  clear hfr
  clear r3
  refine .callM (c_spell [97, 112, 116] (by decide)) rfl rfl (fun _ => trivial) ?_
  rintro v mq hfr ⟨q4, k4, rfl, r4⟩
  refine ⟨[.p q4, .i (spellW [97, 112, 116]).length, .i k4], ⟨_, _, _, rfl⟩, (slv_fresh _ _ _ _ _).symm, .env (by (try simp only [liE, letsOf, letU, snd, List.append_nil]); rfl) ?_⟩
  replace hX := hX.joinL (mq := mq)
  replace hY := hY.joinL (mq := mq)
  replace h1 := h1.joinL (mq := mq)
  replace h1' := h1'.joinL (mq := mq)
  replace h2 := h2.joinL (mq := mq)
  replace h2' := h2'.joinL (mq := mq)
  replace h3 := h3.joinL (mq := mq)
  have h4 := r4.joinR (m := m11) fun b hb => (hfr b hb).1
  generalize m11.join mq = m12 at *
  clear hfr
  clear r4
  have eE : explW ([⟨⟨q1, k1, spellW [112, 97]⟩, ⟨q1', k1', spellW [112, 105]⟩⟩, ⟨⟨q2, k2, spellW [116, 97]⟩, ⟨q2', k2', spellW [116, 97, 116]⟩⟩] : List MD) (spellW [97, 112]) (spellW [97, 112, 116]) = (1, true, 0) := by kernel_rfl
  have cE := c_Explain (some ⟨b0, 0, none⟩) 2 [⟨⟨q1, k1, spellW [112, 97]⟩, ⟨q1', k1', spellW [112, 105]⟩⟩, ⟨⟨q2, k2, spellW [116, 97]⟩, ⟨q2', k2', spellW [116, 97, 116]⟩⟩] ⟨q3, k3, spellW [97, 112]⟩ ⟨q4, k4, spellW [97, 112, 116]⟩ (by simp only [ModelsOk, List.mem_cons, List.not_mem_nil, or_false]; rintro x (rfl | rfl) <;> first | exact (⟨spell_ok _, spell_ok _, h1.ok, h1'.ok⟩) | exact (⟨spell_ok _, spell_ok _, h2.ok, h2'.ok⟩)) (spell_ok _) (spell_ok _) h3.ok (by show (2 : Nat) < _; decide)
  rw [eE] at cE
  refine .callV cE (fun g => ⟨⟨g.cells (j := 0) rfl rfl rfl, by simp only [List.mem_cons, List.not_mem_nil, or_false]; rintro x (rfl | rfl) <;> first | exact (⟨h1.reads g, h1'.reads g⟩) | exact (⟨h2.reads g, h2'.reads g⟩)⟩, h3.reads g, h4.reads g, hV.mono g.R⟩) (.env (by (try simp only [liE, letsOf, letU, snd, List.append_nil]); rfl) ?_)
  clear cE eE
  clear h1 h1' h2 h2' h3 h4
  refine .callM (c_pair [112, 97] [112, 97, 116] (by decide) (by decide)) rfl rfl (fun _ => trivial) ?_
  rintro v mq hfr ⟨q1, k1, q1', k1', rfl, r1, r1'⟩
  refine ⟨[.p q1, .i (spellW [112, 97]).length, .i k1, .p q1', .i (spellW [112, 97, 116]).length, .i k1'], uOk_of rfl, (agg2_fresh _ _ _ _ _ _ _ _).symm, .env (by (try simp only [liE, letsOf, letU, snd, List.append_nil]); rfl) ?_⟩
  replace hX := hX.joinL (mq := mq)
  replace hY := hY.joinL (mq := mq)
  have h1 := r1.joinR (m := m12) fun b hb => (hfr b hb).1
  have h1' := r1'.joinR (m := m12) fun b hb => (hfr b hb).1
  generalize m12.join mq = m13 at *
  clear hfr
  clear r1 r1'
  refine .callM (c_pair [116, 97] [116, 97, 116] (by decide) (by decide)) rfl rfl (fun _ => trivial) ?_
  rintro v mq hfr ⟨q2, k2, q2', k2', rfl, r2, r2'⟩
  refine ⟨[.p q2, .i (spellW [116, 97]).length, .i k2, .p q2', .i (spellW [116, 97, 116]).length, .i k2'], uOk_of rfl, (agg2_fresh _ _ _ _ _ _ _ _).symm, .env (by (try simp only [liE, letsOf, letU, snd, List.append_nil]); rfl) ?_⟩
  replace hX := hX.joinL (mq := mq)
  replace hY := hY.joinL (mq := mq)
  replace h1 := h1.joinL (mq := mq)
  replace h1' := h1'.joinL (mq := mq)
  have h2 := r2.joinR (m := m13) fun b hb => (hfr b hb).1
  have h2' := r2'.joinR (m := m13) fun b hb => (hfr b hb).1
  generalize m13.join mq = m14 at *
  clear hfr
  clear r2 r2'
  refine .callM (c_pair [116, 105] [105] (by decide) (by decide)) rfl rfl (fun _ => trivial) ?_
  rintro v mq hfr ⟨q3, k3, q3', k3', rfl, r3, r3'⟩
  refine ⟨[.p q3, .i (spellW [116, 105]).length, .i k3, .p q3', .i (spellW [105]).length, .i k3'], uOk_of rfl, (agg2_fresh _ _ _ _ _ _ _ _).symm, .env (by (try simp only [liE, letsOf, letU, snd, List.append_nil]); rfl) ?_⟩
  replace hX := hX.joinL (mq := mq)
  replace hY := hY.joinL (mq := mq)
  replace h1 := h1.joinL (mq := mq)
  replace h1' := h1'.joinL (mq := mq)
  replace h2 := h2.joinL (mq := mq)
  replace h2' := h2'.joinL (mq := mq)
  have h3 := r3.joinR (m := m14) fun b hb => (hfr b hb).1
  have h3' := r3'.joinR (m := m14) fun b hb => (hfr b hb).1
  generalize m14.join mq = m15 at *
  clear hfr
  clear r3 r3'
  refine .alloc fun b1 => ?_
  refine .callM (c_spell [112, 105] (by decide)) rfl rfl (fun _ => trivial) ?_
  rintro v mq hfr ⟨q4, k4, rfl, r4⟩
  refine ⟨[.p q4, .i (spellW [112, 105]).length, .i k4], ⟨_, _, _, rfl⟩, (slv_fresh _ _ _ _ _).symm, .env (by (try simp only [liE, letsOf, letU, snd, List.append_nil]); rfl) ?_⟩
  replace hX := hX.joinL (mq := mq)
  replace hY := hY.joinL (mq := mq)
  replace h1 := h1.joinL (mq := mq)
  replace h1' := h1'.joinL (mq := mq)
  replace h2 := h2.joinL (mq := mq)
  replace h2' := h2'.joinL (mq := mq)
  replace h3 := h3.joinL (mq := mq)
  replace h3' := h3'.joinL (mq := mq)
  have h4 := r4.joinR (m := m15) fun b hb => (hfr b hb).1
  generalize m15.join mq = m16 at *
  clear hfr
  clear r4
  have eZ : extW ([⟨⟨q1, k1, spellW [112, 97]⟩, ⟨q1', k1', spellW [112, 97, 116]⟩⟩, ⟨⟨q2, k2, spellW [116, 97]⟩, ⟨q2', k2', spellW [116, 97, 116]⟩⟩, ⟨⟨q3, k3, spellW [116, 105]⟩, ⟨q3', k3', spellW [105]⟩⟩] : List MD) (spellW [112, 105]) = (spellW [112, 105, 116], 2, 0) := by kernel_rfl
  have cZ := c_Extend (some ⟨b1, 0, none⟩) 3 [⟨⟨q1, k1, spellW [112, 97]⟩, ⟨q1', k1', spellW [112, 97, 116]⟩⟩, ⟨⟨q2, k2, spellW [116, 97]⟩, ⟨q2', k2', spellW [116, 97, 116]⟩⟩, ⟨⟨q3, k3, spellW [116, 105]⟩, ⟨q3', k3', spellW [105]⟩⟩] ⟨q4, k4, spellW [112, 105]⟩ (by simp only [ModelsOk, List.mem_cons, List.not_mem_nil, or_false]; rintro x (rfl | rfl | rfl) <;> first | exact (⟨spell_ok _, spell_ok _, h1.ok, h1'.ok⟩) | exact (⟨spell_ok _, spell_ok _, h2.ok, h2'.ok⟩) | exact (⟨spell_ok _, spell_ok _, h3.ok, h3'.ok⟩)) (spell_ok _) h4.ok (by show (3 : Nat) < _; decide)
  rw [eZ] at cZ
  refine .callM cZ rfl rfl (fun g => ⟨⟨g.cells (j := 1) rfl rfl rfl, by simp only [List.mem_cons, List.not_mem_nil, or_false]; rintro x (rfl | rfl | rfl) <;> first | exact (⟨h1.reads g, h1'.reads g⟩) | exact (⟨h2.reads g, h2'.reads g⟩) | exact (⟨h3.reads g, h3'.reads g⟩)⟩, h4.reads g, hV.mono g.R⟩) ?_
  rintro v mq hfr ⟨qZ, kZ, rfl, rZ⟩
  refine ⟨[.p qZ, .i (spellW [112, 105, 116]).length, .i kZ, .i 2, .i 0], uOk_of rfl, (ext_fresh _ _ _ _ _ _ _).symm, .env (by (try simp only [liE, letsOf, letU, snd, List.append_nil]); rfl) ?_⟩
  replace hX := hX.joinL (mq := mq)
  replace hY := hY.joinL (mq := mq)
  replace h1 := h1.joinL (mq := mq)
  replace h1' := h1'.joinL (mq := mq)
  replace h2 := h2.joinL (mq := mq)
  replace h2' := h2'.joinL (mq := mq)
  replace h3 := h3.joinL (mq := mq)
  replace h3' := h3'.joinL (mq := mq)
  replace h4 := h4.joinL (mq := mq)
  have hZ := rZ.joinR (m := m16) fun b hb => (hfr b hb).1
  generalize m16.join mq = m17 at *
  clear hfr
  clear rZ cZ eZ
  clear h1 h1' h2 h2' h3 h3' h4
  refine .alloc fun b2 => ?_
  refine .callM (c_row (some ⟨b2, 0, none⟩) 2 [[112, 97, 116], [112, 97, 116, 97]] (by decide) (by decide)) rfl rfl (fun g => g.cells (j := 2) rfl rfl rfl) ?_
  rintro v mq hfr ⟨q1, k1, fs1, rfl, d1, rF1, rW1⟩
  obtain ⟨p11, c11, p12, c12, rfl⟩ := rows2 d1
  refine ⟨[.p q1, .i 2, .i k1], ⟨_, _, _, rfl⟩, (slv_fresh _ _ _ _ _).symm, .env (by (try simp only [liE, letsOf, letU, snd, List.append_nil]); rfl) ?_⟩
  replace hX := hX.joinL (mq := mq)
  replace hY := hY.joinL (mq := mq)
  replace hZ := hZ.joinL (mq := mq)
  have hF1 := rF1.joinR (m := m17) fun b hb => (hfr b hb).1
  have g11 := (rW1 _ (List.mem_cons_self ..)).joinR (m := m17) fun b hb => (hfr b hb).1
  have g12 := (rW1 _ (List.mem_cons_of_mem _ (List.mem_cons_self ..))).joinR (m := m17) fun b hb => (hfr b hb).1
  generalize m17.join mq = m18 at *
  clear hfr rF1 rW1 d1
  refine .alloc fun b3 => ?_
  refine .callM (c_row (some ⟨b3, 0, none⟩) 2 [[116, 105, 116], [116, 117, 116, 97]] (by decide) (by decide)) rfl rfl (fun g => g.cells (j := 3) rfl rfl rfl) ?_
  rintro v mq hfr ⟨q2, k2, fs2, rfl, d2, rF2, rW2⟩
  obtain ⟨p21, c21, p22, c22, rfl⟩ := rows2 d2
  refine ⟨[.p q2, .i 2, .i k2], ⟨_, _, _, rfl⟩, (slv_fresh _ _ _ _ _).symm, .env (by (try simp only [liE, letsOf, letU, snd, List.append_nil]); rfl) ?_⟩
  replace hX := hX.joinL (mq := mq)
  replace hY := hY.joinL (mq := mq)
  replace hZ := hZ.joinL (mq := mq)
  replace hF1 := hF1.joinL (mq := mq)
  replace g11 := g11.joinL (mq := mq)
  replace g12 := g12.joinL (mq := mq)
  have hF2 := rF2.joinR (m := m18) fun b hb => (hfr b hb).1
  have g21 := (rW2 _ (List.mem_cons_self ..)).joinR (m := m18) fun b hb => (hfr b hb).1
  have g22 := (rW2 _ (List.mem_cons_of_mem _ (List.mem_cons_self ..))).joinR (m := m18) fun b hb => (hfr b hb).1
  generalize m18.join mq = m19 at *
  clear hfr rF2 rW2 d2
  refine .alloc fun b4 => ?_
  have eT : levR ([⟨q1, k1, [⟨true, ⟨p11, c11, spellW [112, 97, 116]⟩⟩, ⟨true, ⟨p12, c12, spellW [112, 97, 116, 97]⟩⟩]⟩, ⟨q2, k2, [⟨true, ⟨p21, c21, spellW [116, 105, 116]⟩⟩, ⟨true, ⟨p22, c22, spellW [116, 117, 116, 97]⟩⟩]⟩] : List LD) 1 0 = ([[(true, spellW [112, 97, 116]), (true, spellW [112, 97, 116, 97])], [(true, spellW [116, 105, 116]), (true, spellW [116, 105, 116, 97])]], 0) := by kernel_rfl
  have cT := c_Level (some ⟨b4, 0, none⟩) 2 [⟨q1, k1, [⟨true, ⟨p11, c11, spellW [112, 97, 116]⟩⟩, ⟨true, ⟨p12, c12, spellW [112, 97, 116, 97]⟩⟩]⟩, ⟨q2, k2, [⟨true, ⟨p21, c21, spellW [116, 105, 116]⟩⟩, ⟨true, ⟨p22, c22, spellW [116, 117, 116, 97]⟩⟩]⟩] 1 0 (by show (2 : Nat) < _; decide) (by simp only [List.mem_cons, List.not_mem_nil, or_false]; rintro r (rfl | rfl) <;> first | exact (⟨by show (2 : Nat) < _; decide, hF1.le, hF1.nil⟩) | exact (⟨by show (2 : Nat) < _; decide, hF2.le, hF2.nil⟩)) (by intro r hr f hf; simp only [List.mem_cons, List.not_mem_nil, or_false] at hr; rcases hr with rfl | rfl <;> (simp only [List.mem_cons, List.not_mem_nil, or_false] at hf; rcases hf with rfl | rfl) <;> first | exact (⟨spell_ok _, g11.ok⟩) | exact (⟨spell_ok _, g12.ok⟩) | exact (⟨spell_ok _, g21.ok⟩) | exact (⟨spell_ok _, g22.ok⟩))
  rw [eT] at cT
  refine .callM cT rfl rfl (fun g => ⟨g.cells (j := 4) rfl rfl rfl, by intro r hr; simp only [List.mem_cons, List.not_mem_nil, or_false] at hr; rcases hr with rfl | rfl <;> first | exact (⟨hF1.reads g, by intro f hf; simp only [List.mem_cons, List.not_mem_nil, or_false] at hf; rcases hf with rfl | rfl <;> first | exact (g11.reads g) | exact (g12.reads g)⟩) | exact (⟨hF2.reads g, by intro f hf; simp only [List.mem_cons, List.not_mem_nil, or_false] at hf; rcases hf with rfl | rfl <;> first | exact (g21.reads g) | exact (g22.reads g)⟩)⟩) ?_
  rintro v mq hfr ⟨qT, kT, tT, rfl, dT, rT⟩
  have lT : tT.length = 2 := by have := congrArg List.length dT; simpa using this
  rw [lT]
  refine ⟨[.p qT, .i 2, .i kT, .i 0], uOk_of rfl, (tab_fresh _ _ _ _ _ _).symm, .env (by (try simp only [liE, letsOf, letU, snd, List.append_nil]); rfl) ?_⟩
  replace hX := hX.joinL (mq := mq)
  replace hY := hY.joinL (mq := mq)
  replace hZ := hZ.joinL (mq := mq)
  replace hF1 := hF1.joinL (mq := mq)
  replace g11 := g11.joinL (mq := mq)
  replace g12 := g12.joinL (mq := mq)
  replace hF2 := hF2.joinL (mq := mq)
  replace g21 := g21.joinL (mq := mq)
  replace g22 := g22.joinL (mq := mq)
  have hT : TabIn (m19.join mq) qT kT tT := rT.joinR fun b hb => (hfr b hb).1
  generalize m19.join mq = m20 at *
  clear hfr rT cT eT
  clear hF1 g11 g12 hF2 g21 g22
  refine .yes rfl ?_
  refine .callM (c_spell [116, 105] (by decide)) rfl rfl (fun _ => trivial) ?_
  rintro v mq hfr ⟨q1, k1, rfl, r1⟩
  refine ⟨[.p q1, .i (spellW [116, 105]).length, .i k1], ⟨_, _, _, rfl⟩, (slv_fresh _ _ _ _ _).symm, .env (by (try simp only [liE, letsOf, letU, snd, List.append_nil]); rfl) ?_⟩
  replace hX := hX.joinL (mq := mq)
  replace hY := hY.joinL (mq := mq)
  replace hZ := hZ.joinL (mq := mq)
  replace hT := hT.joinL (mq := mq)
  have h1 := r1.joinR (m := m20) fun b hb => (hfr b hb).1
  generalize m20.join mq = m21 at *
  clear hfr
  clear r1
  refine .callV (c_refEqual qX q1 kX k1 (spellW [116, 105]) (spellW [116, 105]) (by decide)) (fun g => ⟨hX.reads g, h1.reads g⟩) (.env (by (try simp only [liE, letsOf, letU, snd, List.append_nil]); rfl) (.yes (by rfl) ?_))
  clear h1 hX
  refine .callM (c_spell [97, 116, 97] (by decide)) rfl rfl (fun _ => trivial) ?_
  rintro v mq hfr ⟨q1, k1, rfl, r1⟩
  refine ⟨[.p q1, .i (spellW [97, 116, 97]).length, .i k1], ⟨_, _, _, rfl⟩, (slv_fresh _ _ _ _ _).symm, .env (by (try simp only [liE, letsOf, letU, snd, List.append_nil]); rfl) ?_⟩
  replace hY := hY.joinL (mq := mq)
  replace hZ := hZ.joinL (mq := mq)
  replace hT := hT.joinL (mq := mq)
  have h1 := r1.joinR (m := m21) fun b hb => (hfr b hb).1
  generalize m21.join mq = m22 at *
  clear hfr
  clear r1
  refine .callV (c_refEqual qY q1 kY k1 (spellW [97, 116, 97]) (spellW [97, 116, 97]) (by decide)) (fun g => ⟨hY.reads g, h1.reads g⟩) (.env (by (try simp only [liE, letsOf, letU, snd, List.append_nil]); rfl) (.yes (by rfl) ?_))
  clear h1 hY
  refine .callM (c_spell [112, 105, 116] (by decide)) rfl rfl (fun _ => trivial) ?_
  rintro v mq hfr ⟨q1, k1, rfl, r1⟩
  refine ⟨[.p q1, .i (spellW [112, 105, 116]).length, .i k1], ⟨_, _, _, rfl⟩, (slv_fresh _ _ _ _ _).symm, .env (by (try simp only [liE, letsOf, letU, snd, List.append_nil]); rfl) ?_⟩
  replace hZ := hZ.joinL (mq := mq)
  replace hT := hT.joinL (mq := mq)
  have h1 := r1.joinR (m := m22) fun b hb => (hfr b hb).1
  generalize m22.join mq = m23 at *
  clear hfr
  clear r1
  refine .callV (c_refEqual qZ q1 kZ k1 (spellW [112, 105, 116]) (spellW [112, 105, 116]) (by decide)) (fun g => ⟨hZ.reads g, h1.reads g⟩) (.env (by (try simp only [liE, letsOf, letU, snd, List.append_nil]); rfl) (.yes (by rfl) ?_))
  clear h1 hZ
  refine .alloc fun b5 => ?_
  refine .callM (c_row (some ⟨b5, 0, none⟩) 2 [[112, 97, 116], [112, 97, 116, 97]] (by decide) (by decide)) rfl rfl (fun g => g.cells (j := 5) rfl rfl rfl) ?_
  rintro v mq hfr ⟨q1, k1, fs1, rfl, d1, rF1, rW1⟩
  obtain ⟨p11, c11, p12, c12, rfl⟩ := rows2 d1
  refine ⟨[.p q1, .i 2, .i k1], ⟨_, _, _, rfl⟩, (slv_fresh _ _ _ _ _).symm, .env (by (try simp only [liE, letsOf, letU, snd, List.append_nil]); rfl) ?_⟩
  replace hT := hT.joinL (mq := mq)
  have hF1 := rF1.joinR (m := m23) fun b hb => (hfr b hb).1
  have g11 := (rW1 _ (List.mem_cons_self ..)).joinR (m := m23) fun b hb => (hfr b hb).1
  have g12 := (rW1 _ (List.mem_cons_of_mem _ (List.mem_cons_self ..))).joinR (m := m23) fun b hb => (hfr b hb).1
  generalize m23.join mq = m24 at *
  clear hfr rF1 rW1 d1
  refine .alloc fun b6 => ?_
  refine .callM (c_row (some ⟨b6, 0, none⟩) 2 [[116, 105, 116], [116, 105, 116, 97]] (by decide) (by decide)) rfl rfl (fun g => g.cells (j := 6) rfl rfl rfl) ?_
  rintro v mq hfr ⟨q2, k2, fs2, rfl, d2, rF2, rW2⟩
  obtain ⟨p21, c21, p22, c22, rfl⟩ := rows2 d2
  refine ⟨[.p q2, .i 2, .i k2], ⟨_, _, _, rfl⟩, (slv_fresh _ _ _ _ _).symm, .env (by (try simp only [liE, letsOf, letU, snd, List.append_nil]); rfl) ?_⟩
  replace hT := hT.joinL (mq := mq)
  replace hF1 := hF1.joinL (mq := mq)
  replace g11 := g11.joinL (mq := mq)
  replace g12 := g12.joinL (mq := mq)
  have hF2 := rF2.joinR (m := m24) fun b hb => (hfr b hb).1
  have g21 := (rW2 _ (List.mem_cons_self ..)).joinR (m := m24) fun b hb => (hfr b hb).1
  have g22 := (rW2 _ (List.mem_cons_of_mem _ (List.mem_cons_self ..))).joinR (m := m24) fun b hb => (hfr b hb).1
  generalize m24.join mq = m25 at *
  clear hfr rF2 rW2 d2
  refine .alloc fun b7 => ?_
  have cS := c_sameT qT (some ⟨b7, 0, none⟩) kT 2 tT [⟨q1, k1, [⟨true, ⟨p11, c11, spellW [112, 97, 116]⟩⟩, ⟨true, ⟨p12, c12, spellW [112, 97, 116, 97]⟩⟩]⟩, ⟨q2, k2, [⟨true, ⟨p21, c21, spellW [116, 105, 116]⟩⟩, ⟨true, ⟨p22, c22, spellW [116, 105, 116, 97]⟩⟩]⟩] (by rw [lT]; decide) (tab_small dT)
  rw [lT, dT, decide_eq_true (show ([[(true, spellW [112, 97, 116]), (true, spellW [112, 97, 116, 97])], [(true, spellW [116, 105, 116]), (true, spellW [116, 105, 116, 97])]] : List (List (Bool × List Snd))) = ([⟨q1, k1, [⟨true, ⟨p11, c11, spellW [112, 97, 116]⟩⟩, ⟨true, ⟨p12, c12, spellW [112, 97, 116, 97]⟩⟩]⟩, ⟨q2, k2, [⟨true, ⟨p21, c21, spellW [116, 105, 116]⟩⟩, ⟨true, ⟨p22, c22, spellW [116, 105, 116, 97]⟩⟩]⟩] : List LD).map LD.data from rfl)] at cS
  exact .callV cS (fun g => ⟨hT.reads g, ⟨g.cells (j := 7) rfl rfl rfl, by intro r hr; simp only [List.mem_cons, List.not_mem_nil, or_false] at hr; rcases hr with rfl | rfl <;> first | exact (⟨hF1.reads g, by intro f hf; simp only [List.mem_cons, List.not_mem_nil, or_false] at hf; rcases hf with rfl | rfl <;> first | exact (g11.reads g) | exact (g12.reads g)⟩) | exact (⟨hF2.reads g, by intro f hf; simp only [List.mem_cons, List.not_mem_nil, or_false] at hf; rcases hf with rfl | rfl <;> first | exact (g21.reads g) | exact (g22.reads g)⟩)⟩⟩) (.ret rfl rfl)
end Go.Proofs.YtpbbnmjkbfbelaaDoor
