/- Chapter 30: what is known outright. Printed by known30.py. -/
import Derived.Test.YtpbbnmjkbfbelabDoorZf
import Derived.Test.YtpbbnmjkbfbelabDoorTcKnown
set_option linter.unusedSimpArgs false
set_option linter.unusedVariables false
namespace Go.Sy
open Go Go.RowKit Go.Proofs.YtpbbnmjkbfbelabDoor
theorem Good.leB {c : Cx} {L : List Nat} {m : Mem} (g : Good c L m) (ρ : Env) (bl : List Blk) (n : Nat) : m.le (blkMem L ρ (L.drop n) bl m) := fun b o hb => by
  rw [blkMem_not (fun hL => by have := (g.blk b (List.mem_of_mem_drop hL)).1; rw [this] at hb; cases hb)]
  exact hb
theorem Mem.le_of {m m' : Mem} (h : ∀ b, m b ≠ none → m' b = m b) : m.le m' := fun b o hb => (h b (by rw [hb]; simp)).trans hb
theorem le_upd {m : Mem} {b : Nat} {o : Obj} (h : m b = none) : m.le (m.upd b o) := fun k x hk => by
  rw [Mem.upd_other _ _ (fun e => by subst e; rw [h] at hk; cases hk)]; exact hk
def ManyAt (m : Mem) (b : Nat) : Prop := ∃ e, m b = some (.cells (mcells (List.replicate 257 ⟨wn, wn⟩)).toArray e (0, 0))
theorem ManyAt.le' {m m' : Mem} {b : Nat} (h : ManyAt m b) (hle : m.le m') : ManyAt m' b := h.imp fun _ h => hle _ _ h
theorem ManyAt.reads {m : Mem} {b : Nat} (h : ManyAt m b) {c : Cx} {L : List Nat} {ρ : Env} {blks : List Blk} (g : Good c L m) : Cells (vw c L ρ blks m) (some ⟨b, 0, none⟩) (mcells (List.replicate 257 ⟨wn, wn⟩)) := fun i x hx => by
  obtain ⟨e, h⟩ := h
  exact ⟨b, 0, rfl, by rw [vw_mem g h, Nat.zero_add, List.getElem?_toArray]; exact hx⟩
end Go.Sy
namespace Go.Proofs.YtpbbnmjkbfbelabDoor
open Go Go.Sy Go.RowKit
theorem many_cells : bigCells Tryd.prog 28 (some 257) = mcells (List.replicate 257 ⟨wn, wn⟩) := by kernel_rfl
theorem kn0 : oneW [(1, 2), (2, 1), (4, 0)] [(1, 2), (6, 1)] [(4, 0), (2, 1), (1, 2)] (solveW [(1, 2), (2, 1), (4, 0)] [(1, 2), (6, 1)] [(4, 0), (2, 1), (1, 2)]) = ([], false, 0) := by kernel_rfl
theorem kn1 : oneW [] [(1, 2)] (List.replicate 32 (0, 0)) (solveW [] [(1, 2)] (List.replicate 32 (0, 0))) = ([], false, 11) := by kernel_rfl
theorem kn2 : oneW [] [(1, 2)] (List.replicate 32 (0, 0)) (frontW [] [(1, 2)] (List.replicate 32 (0, 0))) = ([], false, 11) := by kernel_rfl
theorem kn3 : oneW [(1, 2), (2, 1), (4, 0)] [(2, 1), (4, 0)] [(1, 2), (6, 1), (4, 0)] (frontW [(1, 2), (2, 1), (4, 0)] [(2, 1), (4, 0)] [(1, 2), (6, 1), (4, 0)]) = ([(6, 1), (4, 0)], true, 0) := by kernel_rfl
theorem kn4 : oneW [(1, 1)] (List.replicate 33 (0, 0)) (List.replicate 33 (0, 0)) (solveW [(1, 1)] (List.replicate 33 (0, 0)) (List.replicate 33 (0, 0))) = ([], false, 14) := by kernel_rfl
theorem kn5 : oneW [(1, 2)] (List.replicate 33 (0, 0)) [(1, 1)] (frontW [(1, 2)] (List.replicate 33 (0, 0)) [(1, 1)]) = ([], false, 11) := by kernel_rfl
theorem kn6 : oneW [] [] (List.replicate 32 (0, 0)) (solveW [] [] (List.replicate 32 (0, 0))) = ((List.replicate 32 (0, 0)), true, 0) := by kernel_rfl
set_option maxRecDepth 100000 in
set_option maxHeartbeats 8000000 in
theorem l_AnalogyKnown : RetP Tryd.prog n_law30_AnalogyKnown [] VarsAll (.bool true) := by
  refine Fn.of S_law30_AnalogyKnown mx [] rfl rfl fun c hV => ?_
  refine .alloc fun b0 => .alloc fun b1 => .alloc fun b2 => .alloc fun b3 => .envL (by simp only [List.nil_append, List.cons_append]; rfl) ?_
  refine .appendOwn (b0 := b2) (n := 32) (xs := wcells (List.replicate 32 (0, 0))) (qx := some ⟨b3, 0, none⟩) (kx := 1) (capx := 1) (news := wcells [(0, 0)]) el22 rfl (fun g => (g.cells (j := 2) rfl rfl rfl)) (fun g => (g.cells (j := 3) rfl rfl rfl)) rfl (fc rfl (fc rfl fn)) (nofun) (by decide) (by decide) (fun q1 k1 m1 hr _ hle => .env (by (try simp only [liE, lO, lU, snd, aN]); rfl) ?_)
  have h1 : RowW m1 46 q1 k1 (List.replicate 33 (0, 0)) := .of (hr (by decide)).1
  clear hr
  clear hle
  refine .callE (spell_is [112, 97, 116] [(1, 2), (2, 1), (4, 0)] 3 rfl rfl rfl) (fun _ => trivial) ?_
  rintro v mq m2 hle hq ⟨q2, k2, rfl, h2⟩
  refine ⟨[.p q2, .i (3 : Nat), .i k2], uOk_of rfl, (slv_fresh _ _ _ _ _).symm, .env (by (try simp only [liE, lO, lU, snd, aN]); rfl) ?_⟩
  replace h1 := h1.le' hle
  replace h2 := h2.le' hq
  clear hle hq
  refine .callE (spell_is [112, 105] [(1, 2), (6, 1)] 2 rfl rfl rfl) (fun _ => trivial) ?_
  rintro v mq m3 hle hq ⟨q3, k3, rfl, h3⟩
  refine ⟨[.p q3, .i (2 : Nat), .i k3], uOk_of rfl, (slv_fresh _ _ _ _ _).symm, .env (by (try simp only [liE, lO, lU, snd, aN]); rfl) ?_⟩
  replace h1 := h1.le' hle
  replace h2 := h2.le' hle
  replace h3 := h3.le' hq
  clear hle hq
  refine .callE (spell_is [116, 97, 112] [(4, 0), (2, 1), (1, 2)] 3 rfl rfl rfl) (fun _ => trivial) ?_
  rintro v mq m4 hle hq ⟨q4, k4, rfl, h4⟩
  refine ⟨[.p q4, .i (3 : Nat), .i k4], uOk_of rfl, (slv_fresh _ _ _ _ _).symm, .env (by (try simp only [liE, lO, lU, snd, aN]); rfl) ?_⟩
  replace h1 := h1.le' hle
  replace h2 := h2.le' hle
  replace h3 := h3.le' hle
  replace h4 := h4.le' hq
  clear hle hq
  refine .callE (solve_is ⟨q2, k2, [(1, 2), (2, 1), (4, 0)]⟩ ⟨q3, k3, [(1, 2), (6, 1)]⟩ ⟨q4, k4, [(4, 0), (2, 1), (1, 2)]⟩ [] 0 false 0 kn0 rfl rfl h2.ok h3.ok h4.ok) (fun g => ⟨(h2.reads g), (h3.reads g), (h4.reads g), hV.2.2.mono g.R⟩) ?_
  rintro v mq m5 hle hq ⟨q5, k5, rfl, h5⟩
  refine ⟨[.p q5, .i (0 : Nat), .i k5, .b false, .i 0], uOk_of rfl, (res3_fresh _ _ _ _ _ _ _).symm, .env (by (try simp only [liE, lO, lU, snd, aN]); rfl) ?_⟩
  clear h5
  replace h1 := h1.le' hle
  replace h2 := h2.le' hle
  replace h3 := h3.le' hle
  replace h4 := h4.le' hle
  clear hle hq
  clear h2 h3 h4
  refine .callE (spell_is [112] [(1, 2)] 1 rfl rfl rfl) (fun _ => trivial) ?_
  rintro v mq m6 hle hq ⟨q6, k6, rfl, h6⟩
  refine ⟨[.p q6, .i (1 : Nat), .i k6], uOk_of rfl, (slv_fresh _ _ _ _ _).symm, .env (by (try simp only [liE, lO, lU, snd, aN]); rfl) ?_⟩
  replace h1 := h1.le' hle
  replace h6 := h6.le' hq
  clear hle hq
  refine .callE (solve_is wn ⟨q6, k6, [(1, 2)]⟩ ⟨some ⟨b0, 0, none⟩, 32, (List.replicate 32 (0, 0))⟩ [] 0 false 11 kn1 rfl rfl wnok h6.ok (wok _ rfl)) (fun g => ⟨cells0, (h6.reads g), (g.cells (j := 0) rfl rfl rfl), hV.2.2.mono g.R⟩) ?_
  rintro v mq m7 hle hq ⟨q7, k7, rfl, h7⟩
  refine ⟨[.p q7, .i (0 : Nat), .i k7, .b false, .i 11], uOk_of rfl, (res3_fresh _ _ _ _ _ _ _).symm, .env (by (try simp only [liE, lO, lU, snd, aN]); rfl) ?_⟩
  clear h7
  replace h1 := h1.le' hle
  replace h6 := h6.le' hle
  clear hle hq
  clear h6
  refine .callE (spell_is [112] [(1, 2)] 1 rfl rfl rfl) (fun _ => trivial) ?_
  rintro v mq m8 hle hq ⟨q8, k8, rfl, h8⟩
  refine ⟨[.p q8, .i (1 : Nat), .i k8], uOk_of rfl, (slv_fresh _ _ _ _ _).symm, .env (by (try simp only [liE, lO, lU, snd, aN]); rfl) ?_⟩
  replace h1 := h1.le' hle
  replace h8 := h8.le' hq
  clear hle hq
  refine .callE (front_is wn ⟨q8, k8, [(1, 2)]⟩ ⟨some ⟨b0, 0, none⟩, 32, (List.replicate 32 (0, 0))⟩ [] 0 false 11 kn2 rfl rfl wnok h8.ok (wok _ rfl)) (fun g => ⟨cells0, (h8.reads g), (g.cells (j := 0) rfl rfl rfl), hV.2.2.mono g.R⟩) ?_
  rintro v mq m9 hle hq ⟨q9, k9, rfl, h9⟩
  refine ⟨[.p q9, .i (0 : Nat), .i k9, .b false, .i 11], uOk_of rfl, (res3_fresh _ _ _ _ _ _ _).symm, .env (by (try simp only [liE, lO, lU, snd, aN]); rfl) ?_⟩
  clear h9
  replace h1 := h1.le' hle
  replace h8 := h8.le' hle
  clear hle hq
  clear h8
  refine .callE (spell_is [112, 97, 116] [(1, 2), (2, 1), (4, 0)] 3 rfl rfl rfl) (fun _ => trivial) ?_
  rintro v mq m10 hle hq ⟨q10, k10, rfl, h10⟩
  refine ⟨[.p q10, .i (3 : Nat), .i k10], uOk_of rfl, (slv_fresh _ _ _ _ _).symm, .env (by (try simp only [liE, lO, lU, snd, aN]); rfl) ?_⟩
  replace h1 := h1.le' hle
  replace h10 := h10.le' hq
  clear hle hq
  refine .callE (spell_is [97, 116] [(2, 1), (4, 0)] 2 rfl rfl rfl) (fun _ => trivial) ?_
  rintro v mq m11 hle hq ⟨q11, k11, rfl, h11⟩
  refine ⟨[.p q11, .i (2 : Nat), .i k11], uOk_of rfl, (slv_fresh _ _ _ _ _).symm, .env (by (try simp only [liE, lO, lU, snd, aN]); rfl) ?_⟩
  replace h1 := h1.le' hle
  replace h10 := h10.le' hle
  replace h11 := h11.le' hq
  clear hle hq
  refine .callE (spell_is [112, 105, 116] [(1, 2), (6, 1), (4, 0)] 3 rfl rfl rfl) (fun _ => trivial) ?_
  rintro v mq m12 hle hq ⟨q12, k12, rfl, h12⟩
  refine ⟨[.p q12, .i (3 : Nat), .i k12], uOk_of rfl, (slv_fresh _ _ _ _ _).symm, .env (by (try simp only [liE, lO, lU, snd, aN]); rfl) ?_⟩
  replace h1 := h1.le' hle
  replace h10 := h10.le' hle
  replace h11 := h11.le' hle
  replace h12 := h12.le' hq
  clear hle hq
  refine .callE (front_is ⟨q10, k10, [(1, 2), (2, 1), (4, 0)]⟩ ⟨q11, k11, [(2, 1), (4, 0)]⟩ ⟨q12, k12, [(1, 2), (6, 1), (4, 0)]⟩ [(6, 1), (4, 0)] 2 true 0 kn3 rfl rfl h10.ok h11.ok h12.ok) (fun g => ⟨(h10.reads g), (h11.reads g), (h12.reads g), hV.2.2.mono g.R⟩) ?_
  rintro v mq m13 hle hq ⟨q13, k13, rfl, h13⟩
  refine ⟨[.p q13, .i (2 : Nat), .i k13, .b true, .i 0], uOk_of rfl, (res3_fresh _ _ _ _ _ _ _).symm, .env (by (try simp only [liE, lO, lU, snd, aN]); rfl) ?_⟩
  replace h1 := h1.le' hle
  replace h10 := h10.le' hle
  replace h11 := h11.le' hle
  replace h12 := h12.le' hle
  replace h13 := h13.le' hq
  clear hle hq
  clear h10 h11 h12
  refine .callE (solve_is ⟨some ⟨b1, 0, none⟩, 1, [(1, 1)]⟩ ⟨q1, k1, (List.replicate 33 (0, 0))⟩ ⟨q1, k1, (List.replicate 33 (0, 0))⟩ [] 0 false 14 kn4 rfl rfl (wok _ rfl) h1.ok h1.ok) (fun g => ⟨(g.cells (j := 1) rfl rfl rfl), (h1.reads g), (h1.reads g), hV.2.2.mono g.R⟩) ?_
  rintro v mq m14 hle hq ⟨q14, k14, rfl, h14⟩
  refine ⟨[.p q14, .i (0 : Nat), .i k14, .b false, .i 14], uOk_of rfl, (res3_fresh _ _ _ _ _ _ _).symm, .env (by (try simp only [liE, lO, lU, snd, aN]); rfl) ?_⟩
  clear h14
  replace h1 := h1.le' hle
  replace h13 := h13.le' hle
  clear hle hq
  refine .callE (spell_is [112] [(1, 2)] 1 rfl rfl rfl) (fun _ => trivial) ?_
  rintro v mq m15 hle hq ⟨q15, k15, rfl, h15⟩
  refine ⟨[.p q15, .i (1 : Nat), .i k15], uOk_of rfl, (slv_fresh _ _ _ _ _).symm, .env (by (try simp only [liE, lO, lU, snd, aN]); rfl) ?_⟩
  replace h1 := h1.le' hle
  replace h13 := h13.le' hle
  replace h15 := h15.le' hq
  clear hle hq
  refine .callE (front_is ⟨q15, k15, [(1, 2)]⟩ ⟨q1, k1, (List.replicate 33 (0, 0))⟩ ⟨some ⟨b1, 0, none⟩, 1, [(1, 1)]⟩ [] 0 false 11 kn5 rfl rfl h15.ok h1.ok (wok _ rfl)) (fun g => ⟨(h15.reads g), (h1.reads g), (g.cells (j := 1) rfl rfl rfl), hV.2.2.mono g.R⟩) ?_
  rintro v mq m16 hle hq ⟨q16, k16, rfl, h16⟩
  refine ⟨[.p q16, .i (0 : Nat), .i k16, .b false, .i 11], uOk_of rfl, (res3_fresh _ _ _ _ _ _ _).symm, .env (by (try simp only [liE, lO, lU, snd, aN]); rfl) ?_⟩
  clear h16
  replace h1 := h1.le' hle
  replace h13 := h13.le' hle
  replace h15 := h15.le' hle
  clear hle hq
  clear h15
  refine .callE (solve_is wn wn ⟨some ⟨b0, 0, none⟩, 32, (List.replicate 32 (0, 0))⟩ (List.replicate 32 (0, 0)) 32 true 0 kn6 rfl rfl wnok wnok (wok _ rfl)) (fun g => ⟨cells0, cells0, (g.cells (j := 0) rfl rfl rfl), hV.2.2.mono g.R⟩) ?_
  rintro v mq m17 hle hq ⟨q17, k17, rfl, h17⟩
  refine ⟨[.p q17, .i (32 : Nat), .i k17, .b true, .i 0], uOk_of rfl, (res3_fresh _ _ _ _ _ _ _).symm, .env (by (try simp only [liE, lO, lU, snd, aN]); rfl) ?_⟩
  clear h17
  replace h1 := h1.le' hle
  replace h13 := h13.le' hle
  clear hle hq
  refine .join (fun us m => us = [.b false] ∧ m17.le m) ?_ ?_
  · refine .no rfl (.chk rfl (.no rfl ?_))
    have hm := Mem.le.refl m17
    refine .callE (spell_is [105, 116] [(6, 1), (4, 0)] 2 rfl rfl rfl) (fun _ => trivial) ?_
    rintro v mq m18 hle hq ⟨q18, k18, rfl, h18⟩
    refine ⟨[.p q18, .i (2 : Nat), .i k18], uOk_of rfl, (slv_fresh _ _ _ _ _).symm, .env (by (try simp only [liE, lO, lU, snd, aN]); rfl) ?_⟩
    replace h1 := h1.le' hle
    replace h13 := h13.le' hle
    replace h18 := h18.le' hq
    replace hm := hm.trans hle
    clear hle hq
    refine .callV (c_wordEqual q13 q18 k13 k18 [(6, 1), (4, 0)] [(6, 1), (4, 0)] (by decide)) (fun g => ⟨(h13.reads g), (h18.reads g)⟩) (.env (by (try simp only [liE, lO, lU, snd, aN]); rfl) ?_)
    exact .no rfl (.chk rfl (.againL rfl fun gd => ⟨rfl, hm.trans (gd.leB _ _ 4)⟩))
  clear h13
  rintro _ m19 _ ⟨rfl, hle⟩
  replace h1 := h1.le' hle
  clear hle
  refine .env (by (try simp only [liE, lO, lU, snd, aN]); rfl) (.no rfl (.allocb fun bm hbm _ _ => ?_))
  generalize hM : Mem.upd m19 bm _ = m20
  have hO : ManyAt m20 bm := ⟨_, by rw [← hM, many_cells]; exact Mem.upd_same _ _ _⟩
  have hle : m19.le m20 := by rw [← hM]; exact le_upd hbm
  replace h1 := h1.le' hle
  clear hle hM
  refine .env (by (try simp only [liE, lO, lU, snd, aN]); rfl) ?_
  refine .callE (pair_is [112, 97] [112, 97, 116] [(1, 2), (2, 1)] [(1, 2), (2, 1), (4, 0)] 2 3 rfl rfl rfl rfl rfl) (fun _ => trivial) ?_
  rintro v mq m21 hle hq ⟨q19, k19, q19', k19', rfl, h19, h19'⟩
  refine ⟨[.p q19, .i (2 : Nat), .i k19, .p q19', .i (3 : Nat), .i k19'], uOk_of rfl, (agg2_fresh _ _ _ _ _ _ _ _).symm, .env (by (try simp only [liE, lO, lU, snd, aN]); rfl) ?_⟩
  replace h1 := h1.le' hle
  replace hO := hO.le' hle
  replace h19 := h19.le' hq
  replace h19' := h19'.le' hq
  clear hle hq
  refine .alloc fun b4 => .envL (by simp only [List.nil_append, List.cons_append]; rfl) ?_
  refine .callV (explain_is (some ⟨bm, 0, none⟩) 257 (List.replicate 257 ⟨wn, wn⟩) 257 (List.length_replicate ..) ⟨some ⟨b1, 0, none⟩, 1, [(1, 1)]⟩ ⟨some ⟨b1, 0, none⟩, 1, [(1, 1)]⟩ 0 false 12 (by kernel_rfl) (by kernel_rfl) (fun x hx => by rw [List.eq_of_mem_replicate hx]; exact ⟨wnok, wnok⟩) rfl (wok _ rfl) rfl) (fun g => ⟨⟨hO.reads g, fun x hx => by rw [List.eq_of_mem_replicate hx]; exact ⟨cells0, cells0⟩⟩, (g.cells (j := 1) rfl rfl rfl), (g.cells (j := 1) rfl rfl rfl), hV.2.2.mono g.R⟩) (.env (by (try simp only [liE, lO, lU, snd, aN]); rfl) ?_)
  refine .callV (count_is (some ⟨b4, 0, none⟩) 2 [⟨⟨q19, k19, [(1, 2), (2, 1)]⟩, ⟨q19', k19', [(1, 2), (2, 1), (4, 0)]⟩⟩, ⟨⟨q1, k1, (List.replicate 33 (0, 0))⟩, ⟨some ⟨b1, 0, none⟩, 1, [(1, 1)]⟩⟩] 2 rfl ⟨some ⟨b1, 0, none⟩, 1, [(1, 1)]⟩ ⟨some ⟨b1, 0, none⟩, 1, [(1, 1)]⟩ 0 11 (by kernel_rfl) (by kernel_rfl) (fc ⟨h19.ok, h19'.ok⟩ (fc ⟨h1.ok, (wok _ rfl)⟩ fn)) rfl (wok _ rfl) rfl) (fun g => ⟨⟨(g.cells (j := 4) rfl rfl rfl), (fc ⟨(h19.reads g), (h19'.reads g)⟩ (fc ⟨(h1.reads g), (g.cells (j := 1) rfl rfl rfl)⟩ fn))⟩, (g.cells (j := 1) rfl rfl rfl), (g.cells (j := 1) rfl rfl rfl), hV.2.2.mono g.R⟩) (.env (by (try simp only [liE, lO, lU, snd, aN]); rfl) ?_)
  refine .callE (extend_is (some ⟨b4, 0, none⟩) 2 [⟨⟨q19, k19, [(1, 2), (2, 1)]⟩, ⟨q19', k19', [(1, 2), (2, 1), (4, 0)]⟩⟩] 1 rfl ⟨some ⟨b1, 0, none⟩, 1, [(1, 1)]⟩ [] 0 0 14 (by kernel_rfl) rfl (by kernel_rfl) (fc ⟨h19.ok, h19'.ok⟩ fn) rfl (wok _ rfl) rfl) (fun g => ⟨⟨(Cells.take (xs := mcells [⟨⟨q19, k19, [(1, 2), (2, 1)]⟩, ⟨q19', k19', [(1, 2), (2, 1), (4, 0)]⟩⟩]) (ys := mcells [⟨⟨q1, k1, (List.replicate 33 (0, 0))⟩, ⟨some ⟨b1, 0, none⟩, 1, [(1, 1)]⟩⟩]) (g.cells (j := 4) rfl rfl rfl)), (fc ⟨(h19.reads g), (h19'.reads g)⟩ fn)⟩, (g.cells (j := 1) rfl rfl rfl), hV.2.2.mono g.R⟩) ?_
  rintro v mq m22 hle hq ⟨q20, k20, rfl, h20⟩
  refine ⟨[.p q20, .i (0 : Nat), .i k20, .i 0, .i 14], uOk_of rfl, (ext_fresh _ _ _ _ _ _ _).symm, .env (by (try simp only [liE, lO, lU, snd, aN]); rfl) ?_⟩
  clear h20
  replace h1 := h1.le' hle
  replace hO := hO.le' hle
  replace h19 := h19.le' hle
  replace h19' := h19'.le' hle
  clear hle hq
  refine .callE (extend_is (some ⟨b4, 0, none⟩) 2 [⟨⟨q19, k19, [(1, 2), (2, 1)]⟩, ⟨q19', k19', [(1, 2), (2, 1), (4, 0)]⟩⟩] 1 rfl ⟨some ⟨b0, 0, none⟩, 32, (List.replicate 32 (0, 0))⟩ [] 0 0 5 (by kernel_rfl) rfl (by kernel_rfl) (fc ⟨h19.ok, h19'.ok⟩ fn) rfl (wok _ rfl) rfl) (fun g => ⟨⟨(Cells.take (xs := mcells [⟨⟨q19, k19, [(1, 2), (2, 1)]⟩, ⟨q19', k19', [(1, 2), (2, 1), (4, 0)]⟩⟩]) (ys := mcells [⟨⟨q1, k1, (List.replicate 33 (0, 0))⟩, ⟨some ⟨b1, 0, none⟩, 1, [(1, 1)]⟩⟩]) (g.cells (j := 4) rfl rfl rfl)), (fc ⟨(h19.reads g), (h19'.reads g)⟩ fn)⟩, (g.cells (j := 0) rfl rfl rfl), hV.2.2.mono g.R⟩) ?_
  rintro v mq m23 hle hq ⟨q21, k21, rfl, h21⟩
  refine ⟨[.p q21, .i (0 : Nat), .i k21, .i 0, .i 5], uOk_of rfl, (ext_fresh _ _ _ _ _ _ _).symm, .env (by (try simp only [liE, lO, lU, snd, aN]); rfl) ?_⟩
  clear h21
  replace h1 := h1.le' hle
  replace hO := hO.le' hle
  replace h19 := h19.le' hle
  replace h19' := h19'.le' hle
  clear hle hq
  clear h19 h19'
  refine .callE (pair_is [112, 97] [116] [(1, 2), (2, 1)] [(4, 0)] 2 1 rfl rfl rfl rfl rfl) (fun _ => trivial) ?_
  rintro v mq m24 hle hq ⟨q22, k22, q22', k22', rfl, h22, h22'⟩
  refine ⟨[.p q22, .i (2 : Nat), .i k22, .p q22', .i (1 : Nat), .i k22'], uOk_of rfl, (agg2_fresh _ _ _ _ _ _ _ _).symm, .env (by (try simp only [liE, lO, lU, snd, aN]); rfl) ?_⟩
  replace h1 := h1.le' hle
  replace hO := hO.le' hle
  replace h22 := h22.le' hq
  replace h22' := h22'.le' hq
  clear hle hq
  refine .alloc fun b5 => .envL (by simp only [List.nil_append, List.cons_append]; rfl) ?_
  refine .callE (spell_is [116, 105] [(4, 0), (6, 1)] 2 rfl rfl rfl) (fun _ => trivial) ?_
  rintro v mq m25 hle hq ⟨q23, k23, rfl, h23⟩
  refine ⟨[.p q23, .i (2 : Nat), .i k23], uOk_of rfl, (slv_fresh _ _ _ _ _).symm, .env (by (try simp only [liE, lO, lU, snd, aN]); rfl) ?_⟩
  replace h1 := h1.le' hle
  replace hO := hO.le' hle
  replace h22 := h22.le' hle
  replace h22' := h22'.le' hle
  replace h23 := h23.le' hq
  clear hle hq
  refine .callE (extend_is (some ⟨b5, 0, none⟩) 1 [⟨⟨q22, k22, [(1, 2), (2, 1)]⟩, ⟨q22', k22', [(4, 0)]⟩⟩] 1 rfl ⟨q23, k23, [(4, 0), (6, 1)]⟩ [] 0 0 5 (by kernel_rfl) rfl (by kernel_rfl) (fc ⟨h22.ok, h22'.ok⟩ fn) rfl h23.ok rfl) (fun g => ⟨⟨(g.cells (j := 5) rfl rfl rfl), (fc ⟨(h22.reads g), (h22'.reads g)⟩ fn)⟩, (h23.reads g), hV.2.2.mono g.R⟩) ?_
  rintro v mq m26 hle hq ⟨q24, k24, rfl, h24⟩
  refine ⟨[.p q24, .i (0 : Nat), .i k24, .i 0, .i 5], uOk_of rfl, (ext_fresh _ _ _ _ _ _ _).symm, .env (by (try simp only [liE, lO, lU, snd, aN]); rfl) ?_⟩
  clear h24
  replace h1 := h1.le' hle
  replace hO := hO.le' hle
  replace h22 := h22.le' hle
  replace h22' := h22'.le' hle
  replace h23 := h23.le' hle
  clear hle hq
  clear h22 h22' h23
  refine .callV (cost_is (some ⟨bm, 0, none⟩) 257 (List.replicate 257 ⟨wn, wn⟩) 257 (List.length_replicate ..) ⟨some ⟨b1, 0, none⟩, 1, [(1, 1)]⟩ ⟨some ⟨b1, 0, none⟩, 1, [(1, 1)]⟩ ⟨some ⟨b1, 0, none⟩, 1, [(1, 1)]⟩ (-1) 0 2 (by kernel_rfl) (by kernel_rfl) (fun x hx => by rw [List.eq_of_mem_replicate hx]; exact ⟨wnok, wnok⟩) rfl (wok _ rfl) rfl) (fun g => ⟨⟨hO.reads g, fun x hx => by rw [List.eq_of_mem_replicate hx]; exact ⟨cells0, cells0⟩⟩, (g.cells (j := 1) rfl rfl rfl), (g.cells (j := 1) rfl rfl rfl), (g.cells (j := 1) rfl rfl rfl), hV.mono g.R⟩) (.env (by (try simp only [liE, lO, lU, snd, aN]); rfl) ?_)
  refine .callV (cost_is (some ⟨bm, 0, none⟩) 257 (List.replicate 257 ⟨wn, wn⟩) 257 (List.length_replicate ..) ⟨some ⟨b1, 0, none⟩, 1, [(1, 1)]⟩ ⟨some ⟨b1, 0, none⟩, 1, [(1, 1)]⟩ ⟨some ⟨b1, 0, none⟩, 1, [(1, 1)]⟩ 0 0 12 (by kernel_rfl) (by kernel_rfl) (fun x hx => by rw [List.eq_of_mem_replicate hx]; exact ⟨wnok, wnok⟩) rfl (wok _ rfl) rfl) (fun g => ⟨⟨hO.reads g, fun x hx => by rw [List.eq_of_mem_replicate hx]; exact ⟨cells0, cells0⟩⟩, (g.cells (j := 1) rfl rfl rfl), (g.cells (j := 1) rfl rfl rfl), (g.cells (j := 1) rfl rfl rfl), hV.mono g.R⟩) (.env (by (try simp only [liE, lO, lU, snd, aN]); rfl) ?_)
  refine .callE (spell_is [112] [(1, 2)] 1 rfl rfl rfl) (fun _ => trivial) ?_
  rintro v mq m27 hle hq ⟨q25, k25, rfl, h25⟩
  refine ⟨[.p q25, .i (1 : Nat), .i k25], uOk_of rfl, (slv_fresh _ _ _ _ _).symm, .env (by (try simp only [liE, lO, lU, snd, aN]); rfl) ?_⟩
  replace h1 := h1.le' hle
  replace hO := hO.le' hle
  replace h25 := h25.le' hq
  clear hle hq
  refine .callE (spell_is [112] [(1, 2)] 1 rfl rfl rfl) (fun _ => trivial) ?_
  rintro v mq m28 hle hq ⟨q26, k26, rfl, h26⟩
  refine ⟨[.p q26, .i (1 : Nat), .i k26], uOk_of rfl, (slv_fresh _ _ _ _ _).symm, .env (by (try simp only [liE, lO, lU, snd, aN]); rfl) ?_⟩
  replace h1 := h1.le' hle
  replace hO := hO.le' hle
  replace h25 := h25.le' hle
  replace h26 := h26.le' hq
  clear hle hq
  refine .callV (cost_is none 0 [] 0 rfl ⟨q25, k25, [(1, 2)]⟩ ⟨q26, k26, [(1, 2)]⟩ ⟨q1, k1, (List.replicate 33 (0, 0))⟩ 0 0 11 (by kernel_rfl) (by kernel_rfl) fn rfl h25.ok rfl) (fun g => ⟨⟨cells0, fn⟩, (h25.reads g), (h26.reads g), (h1.reads g), hV.mono g.R⟩) (.env (by (try simp only [liE, lO, lU, snd, aN]); rfl) ?_)
  clear h25 h26 hO h1
  refine .no rfl ?_
  refine .alloc fun b6 => .envL (by simp only [List.nil_append, List.cons_append]; rfl) ?_
  refine .callE (row3_is (some ⟨b6, 0, none⟩) 3 [112, 97, 116] [112, 97, 116, 97] [45] true true false [(1, 2), (2, 1), (4, 0)] [(1, 2), (2, 1), (4, 0), (2, 1)] [] rfl rfl) (fun g => (g.cells (j := 6) rfl rfl rfl)) ?_
  rintro v mq m29 hle hq ⟨q27, k27, p270, c270, p271, c271, p272, c272, rfl, h27⟩
  refine ⟨[.p q27, .i (3 : Nat), .i k27], uOk_of rfl, (slv_fresh _ _ _ _ _).symm, .env (by (try simp only [liE, lO, lU, snd, aN]); rfl) ?_⟩
  replace h27 := h27.le' hq
  clear hle hq
  refine .alloc fun b7 => .envL (by simp only [List.nil_append, List.cons_append]; rfl) ?_
  refine .callE (row3_is (some ⟨b7, 0, none⟩) 3 [116, 105, 116] [116, 117, 116, 97] [112] true true true [(4, 0), (6, 1), (4, 0)] [(4, 0), (0, 4), (4, 0), (2, 1)] [(1, 2)] rfl rfl) (fun g => (g.cells (j := 7) rfl rfl rfl)) ?_
  rintro v mq m30 hle hq ⟨q28, k28, p280, c280, p281, c281, p282, c282, rfl, h28⟩
  refine ⟨[.p q28, .i (3 : Nat), .i k28], uOk_of rfl, (slv_fresh _ _ _ _ _).symm, .env (by (try simp only [liE, lO, lU, snd, aN]); rfl) ?_⟩
  replace h27 := h27.le' hle
  replace h28 := h28.le' hq
  clear hle hq
  refine .alloc fun b8 => .envL (by simp only [List.nil_append, List.cons_append]; rfl) ?_
  refine .callE (level_is (some ⟨b8, 0, none⟩) 2 [⟨q27, k27, [⟨true, ⟨p270, c270, [(1, 2), (2, 1), (4, 0)]⟩⟩, ⟨true, ⟨p271, c271, [(1, 2), (2, 1), (4, 0), (2, 1)]⟩⟩, ⟨false, ⟨p272, c272, []⟩⟩]⟩, ⟨q28, k28, [⟨true, ⟨p280, c280, [(4, 0), (6, 1), (4, 0)]⟩⟩, ⟨true, ⟨p281, c281, [(4, 0), (0, 4), (4, 0), (2, 1)]⟩⟩, ⟨true, ⟨p282, c282, [(1, 2)]⟩⟩]⟩] 1 0 [[(true, [(1, 2), (2, 1), (4, 0)]), (true, [(1, 2), (2, 1), (4, 0), (2, 1)]), (false, [])], [(true, [(4, 0), (6, 1), (4, 0)]), (true, [(4, 0), (6, 1), (4, 0), (2, 1)]), (true, [(4, 0), (6, 1), (1, 2)])]] 2 0 (by kernel_rfl) rfl (by kernel_rfl) rfl (fc h27.ok (fc h28.ok fn))) (fun g => ⟨(g.cells (j := 8) rfl rfl rfl), (fc (h27.reads g) (fc (h28.reads g) fn))⟩) ?_
  rintro v mq m31 hle hq ⟨q29, k29, t29, rfl, d29, h29⟩
  refine ⟨[.p q29, .i (2 : Nat), .i k29, .i 0], uOk_of rfl, (tab_fresh _ _ _ _ _ _).symm, .env (by (try simp only [liE, lO, lU, snd, aN]); rfl) ?_⟩
  replace h27 := h27.le' hle
  replace h28 := h28.le' hle
  replace h29 := h29.le' hq
  clear hle hq
  refine .callE (level_is (some ⟨b8, 0, none⟩) 2 [⟨q27, k27, [⟨true, ⟨p270, c270, [(1, 2), (2, 1), (4, 0)]⟩⟩, ⟨true, ⟨p271, c271, [(1, 2), (2, 1), (4, 0), (2, 1)]⟩⟩, ⟨false, ⟨p272, c272, []⟩⟩]⟩, ⟨q28, k28, [⟨true, ⟨p280, c280, [(4, 0), (6, 1), (4, 0)]⟩⟩, ⟨true, ⟨p281, c281, [(4, 0), (0, 4), (4, 0), (2, 1)]⟩⟩, ⟨true, ⟨p282, c282, [(1, 2)]⟩⟩]⟩] 0 2 [] 0 5 (by kernel_rfl) rfl (by kernel_rfl) rfl (fc h27.ok (fc h28.ok fn))) (fun g => ⟨(g.cells (j := 8) rfl rfl rfl), (fc (h27.reads g) (fc (h28.reads g) fn))⟩) ?_
  rintro v mq m32 hle hq ⟨q30, k30, t30, rfl, d30, h30⟩
  refine ⟨[.p q30, .i (0 : Nat), .i k30, .i 5], uOk_of rfl, (tab_fresh _ _ _ _ _ _).symm, .env (by (try simp only [liE, lO, lU, snd, aN]); rfl) ?_⟩
  clear d30 h30
  replace h27 := h27.le' hle
  replace h28 := h28.le' hle
  replace h29 := h29.le' hle
  clear hle hq
  refine .callE (level_is (some ⟨b8, 0, none⟩) 2 [⟨q27, k27, [⟨true, ⟨p270, c270, [(1, 2), (2, 1), (4, 0)]⟩⟩, ⟨true, ⟨p271, c271, [(1, 2), (2, 1), (4, 0), (2, 1)]⟩⟩, ⟨false, ⟨p272, c272, []⟩⟩]⟩, ⟨q28, k28, [⟨true, ⟨p280, c280, [(4, 0), (6, 1), (4, 0)]⟩⟩, ⟨true, ⟨p281, c281, [(4, 0), (0, 4), (4, 0), (2, 1)]⟩⟩, ⟨true, ⟨p282, c282, [(1, 2)]⟩⟩]⟩] 2 0 [] 0 3 (by kernel_rfl) rfl (by kernel_rfl) rfl (fc h27.ok (fc h28.ok fn))) (fun g => ⟨(g.cells (j := 8) rfl rfl rfl), (fc (h27.reads g) (fc (h28.reads g) fn))⟩) ?_
  rintro v mq m33 hle hq ⟨q31, k31, t31, rfl, d31, h31⟩
  refine ⟨[.p q31, .i (0 : Nat), .i k31, .i 3], uOk_of rfl, (tab_fresh _ _ _ _ _ _).symm, .env (by (try simp only [liE, lO, lU, snd, aN]); rfl) ?_⟩
  clear d31 h31
  replace h27 := h27.le' hle
  replace h28 := h28.le' hle
  replace h29 := h29.le' hle
  clear hle hq
  refine .callE (level_is (some ⟨b8, 0, none⟩) 2 [⟨q27, k27, [⟨true, ⟨p270, c270, [(1, 2), (2, 1), (4, 0)]⟩⟩, ⟨true, ⟨p271, c271, [(1, 2), (2, 1), (4, 0), (2, 1)]⟩⟩, ⟨false, ⟨p272, c272, []⟩⟩]⟩, ⟨q28, k28, [⟨true, ⟨p280, c280, [(4, 0), (6, 1), (4, 0)]⟩⟩, ⟨true, ⟨p281, c281, [(4, 0), (0, 4), (4, 0), (2, 1)]⟩⟩, ⟨true, ⟨p282, c282, [(1, 2)]⟩⟩]⟩] 0 3 [] 0 3 (by kernel_rfl) rfl (by kernel_rfl) rfl (fc h27.ok (fc h28.ok fn))) (fun g => ⟨(g.cells (j := 8) rfl rfl rfl), (fc (h27.reads g) (fc (h28.reads g) fn))⟩) ?_
  rintro v mq m34 hle hq ⟨q32, k32, t32, rfl, d32, h32⟩
  refine ⟨[.p q32, .i (0 : Nat), .i k32, .i 3], uOk_of rfl, (tab_fresh _ _ _ _ _ _).symm, .env (by (try simp only [liE, lO, lU, snd, aN]); rfl) ?_⟩
  clear d32 h32
  replace h27 := h27.le' hle
  replace h28 := h28.le' hle
  replace h29 := h29.le' hle
  clear hle hq
  clear h27 h28
  refine .callE (level_is none 0 [] 0 0 [] 0 3 (by kernel_rfl) rfl (by kernel_rfl) rfl fn) (fun g => ⟨cells0, fn⟩) ?_
  rintro v mq m35 hle hq ⟨q33, k33, t33, rfl, d33, h33⟩
  refine ⟨[.p q33, .i (0 : Nat), .i k33, .i 3], uOk_of rfl, (tab_fresh _ _ _ _ _ _).symm, .env (by (try simp only [liE, lO, lU, snd, aN]); rfl) ?_⟩
  clear d33 h33
  replace h29 := h29.le' hle
  clear hle hq
  refine .alloc fun b9 => .envL (by simp only [List.nil_append, List.cons_append]; rfl) ?_
  refine .callE (row1_is (some ⟨b9, 0, none⟩) 1 [112, 97, 116] true [(1, 2), (2, 1), (4, 0)] rfl rfl) (fun g => (g.cells (j := 9) rfl rfl rfl)) ?_
  rintro v mq m36 hle hq ⟨q34, k34, p340, c340, rfl, h34⟩
  refine ⟨[.p q34, .i (1 : Nat), .i k34], uOk_of rfl, (slv_fresh _ _ _ _ _).symm, .env (by (try simp only [liE, lO, lU, snd, aN]); rfl) ?_⟩
  replace h29 := h29.le' hle
  replace h34 := h34.le' hq
  clear hle hq
  refine .alloc fun b10 => .envL (by simp only [List.nil_append, List.cons_append]; rfl) ?_
  refine .callE (row2_is (some ⟨b10, 0, none⟩) 2 [112] [112] true true [(1, 2)] [(1, 2)] rfl rfl) (fun g => (g.cells (j := 10) rfl rfl rfl)) ?_
  rintro v mq m37 hle hq ⟨q35, k35, p350, c350, p351, c351, rfl, h35⟩
  refine ⟨[.p q35, .i (2 : Nat), .i k35], uOk_of rfl, (slv_fresh _ _ _ _ _).symm, .env (by (try simp only [liE, lO, lU, snd, aN]); rfl) ?_⟩
  replace h29 := h29.le' hle
  replace h34 := h34.le' hle
  replace h35 := h35.le' hq
  clear hle hq
  refine .alloc fun b11 => .envL (by simp only [List.nil_append, List.cons_append]; rfl) ?_
  refine .callE (level_is (some ⟨b11, 0, none⟩) 2 [⟨q34, k34, [⟨true, ⟨p340, c340, [(1, 2), (2, 1), (4, 0)]⟩⟩]⟩, ⟨q35, k35, [⟨true, ⟨p350, c350, [(1, 2)]⟩⟩, ⟨true, ⟨p351, c351, [(1, 2)]⟩⟩]⟩] 7 7 [] 0 2 (by kernel_rfl) rfl (by kernel_rfl) rfl (fc h34.ok (fc h35.ok fn))) (fun g => ⟨(g.cells (j := 11) rfl rfl rfl), (fc (h34.reads g) (fc (h35.reads g) fn))⟩) ?_
  rintro v mq m38 hle hq ⟨q36, k36, t36, rfl, d36, h36⟩
  refine ⟨[.p q36, .i (0 : Nat), .i k36, .i 2], uOk_of rfl, (tab_fresh _ _ _ _ _ _).symm, .env (by (try simp only [liE, lO, lU, snd, aN]); rfl) ?_⟩
  clear d36 h36
  replace h29 := h29.le' hle
  replace h34 := h34.le' hle
  replace h35 := h35.le' hle
  clear hle hq
  clear h34 h35
  refine .callE (spell_is [112] [(1, 2)] 1 rfl rfl rfl) (fun _ => trivial) ?_
  rintro v mq m39 hle hq ⟨q37, k37, rfl, h37⟩
  refine ⟨[.p q37, .i (1 : Nat), .i k37], uOk_of rfl, (slv_fresh _ _ _ _ _).symm, .env (by (try simp only [liE, lO, lU, snd, aN]); rfl) ?_⟩
  replace h29 := h29.le' hle
  replace h37 := h37.le' hq
  clear hle hq
  refine .alloc fun b12 => .envL (by simp only [List.nil_append, List.cons_append]; rfl) ?_
  refine .appendOwn (b0 := b12) (n := 31) (xs := wcells (List.replicate 31 (0, 0))) (qx := q37) (kx := 1) (capx := k37) (news := wcells [(1, 2)]) el22 rfl (fun g => (g.cells (j := 12) rfl rfl rfl)) (fun g => (h37.reads g)) rfl (fc rfl (fc rfl fn)) (h37.ok.2) (by decide) (by decide) (fun q38 k38 m40 hr _ hle => .env (by (try simp only [liE, lO, lU, snd, aN]); rfl) ?_)
  have h38 : RowW m40 46 q38 k38 (List.replicate 31 (0, 0) ++ [(1, 2)]) := .of (hr (by decide)).1
  clear hr
  replace hle : m39.le m40 := Mem.le_of hle
  replace h29 := h29.le' hle
  replace h37 := h37.le' hle
  clear hle
  clear h37
  refine .alloc fun b13 => .alloc fun b14 => .envL (by simp only [List.nil_append, List.cons_append]; rfl) ?_
  refine .callE (row1_is (some ⟨b14, 0, none⟩) 1 [97, 116] true [(2, 1), (4, 0)] rfl rfl) (fun g => (g.cells (j := 14) rfl rfl rfl)) ?_
  rintro v mq m41 hle hq ⟨q39, k39, p390, c390, rfl, h39⟩
  refine ⟨[.p q39, .i (1 : Nat), .i k39], uOk_of rfl, (slv_fresh _ _ _ _ _).symm, .env (by (try simp only [liE, lO, lU, snd, aN]); rfl) ?_⟩
  replace h29 := h29.le' hle
  replace h38 := h38.le' hle
  replace h39 := h39.le' hq
  clear hle hq
  refine .loadF0 [⟨true, ⟨p390, c390, [(2, 1), (4, 0)]⟩⟩] ⟨true, ⟨p390, c390, [(2, 1), (4, 0)]⟩⟩ rfl (fun g => (h39.reads g).1) (.env (by (try simp only [liE, lO, lU, snd, aN]); rfl) ?_) rfl
  refine .alloc fun b15 => .envL (by simp only [List.nil_append, List.cons_append]; rfl) ?_
  refine .callE (row2_is (some ⟨b15, 0, none⟩) 2 [117, 112] [117, 97, 116] true true [(0, 4), (1, 2)] [(0, 4), (2, 1), (4, 0)] rfl rfl) (fun g => (g.cells (j := 15) rfl rfl rfl)) ?_
  rintro v mq m42 hle hq ⟨q40, k40, p400, c400, p401, c401, rfl, h40⟩
  refine ⟨[.p q40, .i (2 : Nat), .i k40], uOk_of rfl, (slv_fresh _ _ _ _ _).symm, .env (by (try simp only [liE, lO, lU, snd, aN]); rfl) ?_⟩
  replace h29 := h29.le' hle
  replace h38 := h38.le' hle
  replace h39 := h39.le' hle
  replace h40 := h40.le' hq
  clear hle hq
  refine .alloc fun b16 => .alloc fun b17 => .envL (by simp only [List.nil_append, List.cons_append]; rfl) ?_
  refine .callE (level_is (some ⟨b17, 0, none⟩) 2 [⟨some ⟨b16, 0, none⟩, 2, [⟨true, ⟨q38, k38, (List.replicate 31 (0, 0) ++ [(1, 2)])⟩⟩, ⟨true, ⟨p390, c390, [(2, 1), (4, 0)]⟩⟩]⟩, ⟨q40, k40, [⟨true, ⟨p400, c400, [(0, 4), (1, 2)]⟩⟩, ⟨true, ⟨p401, c401, [(0, 4), (2, 1), (4, 0)]⟩⟩]⟩] 0 0 [] 0 11 (by kernel_rfl) rfl (by kernel_rfl) rfl (fc ⟨⟨Nat.le_refl _, nofun⟩, (fc h38.ok (fc ((h39.2 _ (List.mem_cons_self ..)).ok) fn))⟩ (fc h40.ok fn))) (fun g => ⟨(g.cells (j := 17) rfl rfl rfl), (fc ⟨(g.cells (j := 16) rfl rfl rfl), (fc (h38.reads g) (fc ((h39.2 _ (List.mem_cons_self ..)).reads g) fn))⟩ (fc (h40.reads g) fn))⟩) ?_
  rintro v mq m43 hle hq ⟨q41, k41, t41, rfl, d41, h41⟩
  refine ⟨[.p q41, .i (0 : Nat), .i k41, .i 11], uOk_of rfl, (tab_fresh _ _ _ _ _ _).symm, .env (by (try simp only [liE, lO, lU, snd, aN]); rfl) ?_⟩
  clear d41 h41
  replace h29 := h29.le' hle
  replace h38 := h38.le' hle
  replace h39 := h39.le' hle
  replace h40 := h40.le' hle
  clear hle hq
  clear h38 h39 h40
  refine .join (fun us m => us = [.b true]) ?_ ?_
  · obtain ⟨q1, c1, f1, q2, c2, f2, rfl, d1, d2⟩ := lines2 d29
    obtain ⟨p1, e1, f3, rfl, d3⟩ := forms_cons d2
    obtain ⟨p2, e2, f4, rfl, d4⟩ := forms_cons d3
    obtain ⟨p3, e3, rfl⟩ := forms1 d4
    clear d1 d2 d3 d4 d29
    refine .yes rfl (.chk rfl (.yes rfl ?_))
    refine .loadSlit (([⟨q1, c1, f1⟩, ⟨q2, c2, [⟨true, ⟨p1, e1, [(4, 0), (6, 1), (4, 0)]⟩⟩, ⟨true, ⟨p2, e2, [(4, 0), (6, 1), (4, 0), (2, 1)]⟩⟩, ⟨true, ⟨p3, e3, [(4, 0), (6, 1), (1, 2)]⟩⟩]⟩] : List LD).map LD.v) 1 q2 3 c2 rfl (fun g => h29.row.reads g) (.env (by (try simp only [liE, lO, lU, snd, aN]); rfl) ?_) rfl rfl
    refine .chk rfl (.yes rfl ?_)
    refine .loadSlit (([⟨q1, c1, f1⟩, ⟨q2, c2, [⟨true, ⟨p1, e1, [(4, 0), (6, 1), (4, 0)]⟩⟩, ⟨true, ⟨p2, e2, [(4, 0), (6, 1), (4, 0), (2, 1)]⟩⟩, ⟨true, ⟨p3, e3, [(4, 0), (6, 1), (1, 2)]⟩⟩]⟩] : List LD).map LD.v) 1 q2 3 c2 rfl (fun g => h29.row.reads g) (.env (by (try simp only [liE, lO, lU, snd, aN]); rfl) ?_) rfl rfl
    refine .loadSlit2 (fcells [⟨true, ⟨p1, e1, [(4, 0), (6, 1), (4, 0)]⟩⟩, ⟨true, ⟨p2, e2, [(4, 0), (6, 1), (4, 0), (2, 1)]⟩⟩, ⟨true, ⟨p3, e3, [(4, 0), (6, 1), (1, 2)]⟩⟩]) 3 p2 4 e2 rfl (fun g => (h29.rows _ (List.mem_cons_of_mem _ (List.mem_cons_self ..))).1.reads g) (.env (by (try simp only [liE, lO, lU, snd, aN]); rfl) ?_) rfl rfl
    have hw : RowW m43 46 p2 e2 [(4, 0), (6, 1), (4, 0), (2, 1)] := (h29.rows _ (List.mem_cons_of_mem _ (List.mem_cons_self ..))).2 _ (List.mem_cons_of_mem _ (List.mem_cons_self ..))
    clear h29
    refine .callE (spell_is [116, 105, 116, 97] [(4, 0), (6, 1), (4, 0), (2, 1)] 4 rfl rfl rfl) (fun _ => trivial) ?_
    rintro v mq m44 hle hq ⟨q42, k42, rfl, h42⟩
    refine ⟨[.p q42, .i (4 : Nat), .i k42], uOk_of rfl, (slv_fresh _ _ _ _ _).symm, .env (by (try simp only [liE, lO, lU, snd, aN]); rfl) ?_⟩
    replace hw := hw.le' hle
    replace h42 := h42.le' hq
    clear hle hq
    refine .callV (c_wordEqual p2 q42 e2 k42 [(4, 0), (6, 1), (4, 0), (2, 1)] [(4, 0), (6, 1), (4, 0), (2, 1)] (by decide)) (fun g => ⟨hw.reads g, (h42.reads g)⟩) (.env (by (try simp only [liE, lO, lU, snd, aN]); rfl) (.yes rfl (.callV c_works (fun g => hV.2.2.mono g.R) (.env (by (try simp only [liE, lO, lU, snd, aN]); rfl) (.againL rfl fun gd => rfl)))))
  rintro _ _ _ rfl
  exact .env (by (try simp only [liE, lO, lU, snd, aN]); rfl) (.ret rfl rfl)
end Go.Proofs.YtpbbnmjkbfbelabDoor
