/- Chapter 18: what is known outright. -/
import Derived.Test.YtialbhieaipcgaaDoorYv
import Derived.Test.YtialbhieaipcgaaDoorTcKnown
set_option linter.unusedSimpArgs false
set_option linter.unusedVariables false
namespace Go.Proofs.YtialbhieaipcgaaDoor
open Go Go.Sy Go.RowKit
theorem x1 : addA [1, 1] 1 [[(1, 2), (2, 1)]] [[0], [1]] [(0, 0)] = ([[0, 0], [1, -1]], 0) := by kernel_rfl
theorem x2 : exactA [1, 1] 1 [] = ([], 0, 0) := by kernel_rfl
theorem x3 : progA [1, 1] 1 [[], [], [], [], [], [], [], []] = ([], 0) := by kernel_rfl
theorem x4 : addA [1, 1] 1 [] [] [(1, 2), (2, 1)] = ([[0], [1]], 0) := by kernel_rfl
theorem x5 : rowCA [[(1, 2), (2, 1)], [(2, 1)]] [[0, -1], [1, 0]] 1 = ([(1, (0, 0)), (2, (2, 1))], 0) := by kernel_rfl
theorem y0a : scoreM [1, 1] 1 [[(1, 2), (2, 1)]] [[0]] = (0, 8) := by kernel_rfl
theorem y0b : rowCA [[(1, 2), (2, 1)]] [[0]] 7 = ([], 8) := by kernel_rfl
theorem y0c : checkA [[(1, 2), (2, 1)]] [[0]] = 8 := by kernel_rfl
theorem y1a : scoreM [1, 1] 1 [[(1, 2), (2, 1)]] [[0], [-1], [1]] = (0, 8) := by kernel_rfl
theorem y1b : rowCA [[(1, 2), (2, 1)]] [[0], [-1], [1]] 7 = ([], 8) := by kernel_rfl
theorem y1c : checkA [[(1, 2), (2, 1)]] [[0], [-1], [1]] = 8 := by kernel_rfl
theorem y2a : scoreM [1, 1] 1 [[(1, 2), (2, 1)]] [[1], [0]] = (0, 8) := by kernel_rfl
theorem y2b : rowCA [[(1, 2), (2, 1)]] [[1], [0]] 7 = ([], 8) := by kernel_rfl
theorem y2c : checkA [[(1, 2), (2, 1)]] [[1], [0]] = 8 := by kernel_rfl
theorem y3a : scoreM [1, 1] 1 [[(1, 2), (2, 1)]] [[0], [0], [1]] = (0, 8) := by kernel_rfl
theorem y3b : rowCA [[(1, 2), (2, 1)]] [[0], [0], [1]] 7 = ([], 8) := by kernel_rfl
theorem y3c : checkA [[(1, 2), (2, 1)]] [[0], [0], [1]] = 8 := by kernel_rfl
theorem y4a : scoreM [1, 1] 1 [[(1, 2), (2, 1)]] [[0, 0], [1, 1]] = (0, 8) := by kernel_rfl
theorem y4b : rowCA [[(1, 2), (2, 1)]] [[0, 0], [1, 1]] 7 = ([], 8) := by kernel_rfl
theorem y4c : checkA [[(1, 2), (2, 1)]] [[0, 0], [1, 1]] = 8 := by kernel_rfl
theorem y5a : scoreM [1, 1] 1 [[(1, 2), (2, 1)]] [[0], [1], [2]] = (0, 8) := by kernel_rfl
theorem y5b : rowCA [[(1, 2), (2, 1)]] [[0], [1], [2]] 7 = ([], 8) := by kernel_rfl
theorem y5c : checkA [[(1, 2), (2, 1)]] [[0], [1], [2]] = 8 := by kernel_rfl
theorem y6a : scoreM [1, 1] 1 [[(1, 2), (2, 1)]] [[0], []] = (0, 8) := by kernel_rfl
theorem y6b : rowCA [[(1, 2), (2, 1)]] [[0], []] 7 = ([], 8) := by kernel_rfl
theorem y6c : checkA [[(1, 2), (2, 1)]] [[0], []] = 8 := by kernel_rfl
theorem y7a : scoreM [1, 1] 1 [[(1, 2), (2, 1)]] [[0], [1], [-2]] = (0, 8) := by kernel_rfl
theorem y7b : rowCA [[(1, 2), (2, 1)]] [[0], [1], [-2]] 7 = ([], 8) := by kernel_rfl
theorem y7c : checkA [[(1, 2), (2, 1)]] [[0], [1], [-2]] = 8 := by kernel_rfl
theorem y8a : scoreM [1, 1] 1 [[(1, 2), (2, 1)]] [] = (0, 8) := by kernel_rfl
theorem y8b : rowCA [[(1, 2), (2, 1)]] [] 7 = ([], 8) := by kernel_rfl
theorem y8c : checkA [[(1, 2), (2, 1)]] [] = 8 := by kernel_rfl
theorem z1 : scoreM [] (-1) [[], [], [], [], [], [], [], [], []] [] = (0, 2) := by kernel_rfl
theorem z2 : scoreM [1, 1] 1 [[], [], [], [], [], [], [], [], [], [(1, 1)]] [] = (0, 12) := by kernel_rfl
theorem z3 : scoreM [1, 1] 1 [[(1, 2), (2, 1)], [(1, 1)]] [] = (0, 14) := by kernel_rfl
theorem z4 : addA [1, 1] 1 [[], [], [], [], [], [], [], []] [] [(1, 1)] = ([], 12) := by kernel_rfl
theorem z5 : addA [1, 1] 1 [[], [], [], [], [], [], []] [[0]] [(1, 1)] = ([], 14) := by kernel_rfl
theorem z6 : exactA [1, 1] 1 [[], [], [], []] = ([], 0, 12) := by kernel_rfl
theorem z7 : exactA [1, 1] 1 [[(0, 0), (0, 0), (0, 0), (0, 0), (0, 0), (0, 0), (0, 0)], [(1, 1)]] = ([], 0, 14) := by kernel_rfl
theorem z8 : exactA [1, 1] 1 [[(2, 1)], [(0, 0), (0, 0), (0, 0), (0, 0), (0, 0), (0, 0), (0, 0)]] = ([], 0, 11) := by kernel_rfl
theorem z9 : withoutE [[(1, 2), (2, 1)]] [[0], [1]] 1 = ([], 3) := by kernel_rfl
theorem z10 : withoutE [] [] 0 = ([], 3) := by kernel_rfl
theorem z11 : progA [1, 1] 1 [[], [], [], [], [], [], [], [], []] = ([], 12) := by kernel_rfl
theorem z12 : scoreM [1, 1] 1 [[], [], [], [], [], [], [], []] [[0, 0, 0, 0, 0, 0, 0, 0]] = (0, 8) := by kernel_rfl
set_option maxHeartbeats 8000000 in
theorem l_MultiKnown : RetP Tryd.prog n_law18_MultiKnown [] VarsOk (.bool true) := by
  refine Fn.of S_law18_MultiKnown mx [] rfl rfl fun c hV => ?_
  refine .callV c_p (fun _ => trivial) (.env (by (try simp only [liE, letsOf, letU, snd, List.append_nil]); rfl) ?_)
  refine .callV c_a (fun _ => trivial) (.env (by (try simp only [liE, letsOf, letU, snd, List.append_nil]); rfl) ?_)
  refine .alloc fun b0 => .envL (by simp only [List.nil_append, List.cons_append]; rfl) ?_
  refine .callV c_a (fun _ => trivial) (.env (by (try simp only [liE, letsOf, letU, snd, List.append_nil]); rfl) ?_)
  refine .alloc fun b1 => .alloc fun b2 => .alloc fun b3 => .alloc fun b4 => .alloc fun b5 => .alloc fun b6 => .alloc fun b7 => .alloc fun b8 => .envL (by simp only [List.nil_append, List.cons_append]; rfl) ?_
  refine .callV c_t (fun _ => trivial) (.env (by (try simp only [liE, letsOf, letU, snd, List.append_nil]); rfl) ?_)
  refine .alloc fun b9 => .envL (by simp only [List.nil_append, List.cons_append]; rfl) ?_
  try clear hC
  refine .callE c_costs18 (fun _ => trivial) ?_
  rintro v mq m1 hle hq ⟨d1, rfl, hC⟩
  refine ⟨[.p (some ⟨d1, 0, none⟩), .i (2 : Nat), .i (2 : Nat), .i 1], uOk_of rfl, rfl, .env (by (try simp only [liE, letsOf, letU, snd, List.append_nil]); rfl) ?_⟩
  replace hC := hC.mono hq.mv
  clear hle hq
  refine .callE (add_is (p := (some ⟨b5, 0, none⟩)) (pcol := (some ⟨b8, 0, none⟩)) (pc := some ⟨d1, 0, none⟩) (cp := 1) (ccol := 2) (cc := 2) (l := [⟨some ⟨b0, 0, none⟩, 2, [(1, 2), (2, 1)]⟩]) (rs := [⟨some ⟨b6, 0, none⟩, 1, [0]⟩, ⟨some ⟨b7, 0, none⟩, 1, [1]⟩]) (ws := [1, 1]) (gap := 1) (x := ⟨some ⟨b9, 0, none⟩, 1, [(0, 0)]⟩) [[(1, 2), (2, 1)]] [[0], [1]] [(0, 0)] _ 2 0 x1 rfl rfl rfl rfl rfl rfl rfl nofun (fc (rok rfl) (fc (rok rfl) fn))) (fun g => ⟨⟨(g.cells (j := 5) rfl rfl rfl), (fc (g.cells (j := 0) rfl rfl rfl) fn)⟩, ⟨(g.cells (j := 8) rfl rfl rfl), (fc (g.cells (j := 6) rfl rfl rfl) (fc (g.cells (j := 7) rfl rfl rfl) fn))⟩, (g.cells (j := 9) rfl rfl rfl), hC.mono g.mv, hV.mono g.R⟩) ?_
  rintro v mq m2 hle hq ⟨q1, k1, t1, rfl, ht1, hT1⟩
  refine ⟨[.p q1, .i (2 : Nat), .i k1, .i 0], uOk_of rfl, (tab_fresh _ _ _ _ _ _).symm, .env (by (try simp only [liE, letsOf, letU, snd, List.append_nil]); rfl) ?_⟩
  have hT1 := hT1.le' hq
  clear hle hq
  try clear hC
  refine .callE c_costs18 (fun _ => trivial) ?_
  rintro v mq m3 hle hq ⟨d2, rfl, hC⟩
  refine ⟨[.p (some ⟨d2, 0, none⟩), .i (2 : Nat), .i (2 : Nat), .i 1], uOk_of rfl, rfl, .env (by (try simp only [liE, letsOf, letU, snd, List.append_nil]); rfl) ?_⟩
  replace hC := hC.mono hq.mv
  replace hT1 := hT1.le' hle
  clear hle hq
  refine .callE (exact_is (p := none) (pc := some ⟨d2, 0, none⟩) (cp := 0) (cc := 2) (l := []) (ws := [1, 1]) (gap := 1) [] _ 0 0 0 x2 rfl rfl rfl rfl) (fun g => ⟨⟨cells0, fn⟩, hC.mono g.mv, hV.1.mono g.R⟩) ?_
  rintro v mq m4 hle hq ⟨q2, k2, t2, rfl, ht2, hT2⟩
  refine ⟨[.p q2, .i (0 : Nat), .i k2, .i 0, .i 0], uOk_of rfl, (ext_fresh _ _ _ _ _ _ _).symm, .env (by (try simp only [liE, letsOf, letU, snd, List.append_nil]); rfl) ?_⟩
  clear ht2 hT2
  replace hT1 := hT1.le' hle
  clear hle hq
  try clear hC
  refine .callE c_costs18 (fun _ => trivial) ?_
  rintro v mq m5 hle hq ⟨d3, rfl, hC⟩
  refine ⟨[.p (some ⟨d3, 0, none⟩), .i (2 : Nat), .i (2 : Nat), .i 1], uOk_of rfl, rfl, .env (by (try simp only [liE, letsOf, letU, snd, List.append_nil]); rfl) ?_⟩
  replace hC := hC.mono hq.mv
  replace hT1 := hT1.le' hle
  clear hle hq
  refine .callE (prog_is (p := (some ⟨b4, 0, none⟩)) (pc := some ⟨d3, 0, none⟩) (cp := 9) (cc := 2) (l := (List.replicate 8 wn)) (ws := [1, 1]) (gap := 1) [[], [], [], [], [], [], [], []] _ 0 0 x3 rfl rfl rfl rfl) (fun g => ⟨⟨Cells.take (xs := (List.replicate 8 wn).map WD.v) (ys := (List.replicate 1 wn).map WD.v) (g.cells (j := 4) rfl rfl rfl), nil_at 8⟩, hC.mono g.mv, hV.1.mono g.R, hV.2.mono g.R⟩) ?_
  rintro v mq m6 hle hq ⟨q3, k3, t3, rfl, ht3, hT3⟩
  refine ⟨[.p q3, .i (0 : Nat), .i k3, .i 0], uOk_of rfl, (tab_fresh _ _ _ _ _ _).symm, .env (by (try simp only [liE, letsOf, letU, snd, List.append_nil]); rfl) ?_⟩
  clear ht3 hT3
  replace hT1 := hT1.le' hle
  clear hle hq
  try clear hC
  refine .callE c_costs18 (fun _ => trivial) ?_
  rintro v mq m7 hle hq ⟨d4, rfl, hC⟩
  refine ⟨[.p (some ⟨d4, 0, none⟩), .i (2 : Nat), .i (2 : Nat), .i 1], uOk_of rfl, rfl, .env (by (try simp only [liE, letsOf, letU, snd, List.append_nil]); rfl) ?_⟩
  replace hC := hC.mono hq.mv
  replace hT1 := hT1.le' hle
  clear hle hq
  refine .callE (add_is (p := none) (pcol := none) (pc := some ⟨d4, 0, none⟩) (cp := 0) (ccol := 0) (cc := 2) (l := []) (rs := []) (ws := [1, 1]) (gap := 1) (x := ⟨some ⟨b0, 0, none⟩, 2, [(1, 2), (2, 1)]⟩) [] [] [(1, 2), (2, 1)] _ 2 0 x4 rfl rfl rfl rfl rfl rfl rfl (fun _ => rfl) fn) (fun g => ⟨⟨cells0, fn⟩, ⟨cells0, fn⟩, (g.cells (j := 0) rfl rfl rfl), hC.mono g.mv, hV.mono g.R⟩) ?_
  rintro v mq m8 hle hq ⟨q4, k4, t4, rfl, ht4, hT4⟩
  refine ⟨[.p q4, .i (2 : Nat), .i k4, .i 0], uOk_of rfl, (tab_fresh _ _ _ _ _ _).symm, .env (by (try simp only [liE, letsOf, letU, snd, List.append_nil]); rfl) ?_⟩
  have hT4 := hT4.le' hq
  replace hT1 := hT1.le' hle
  clear hle hq
  refine .alloc fun b10 => .alloc fun b11 => .alloc fun b12 => .alloc fun b13 => .envL (by simp only [List.nil_append, List.cons_append]; rfl) ?_
  refine .callE (row_is (p := (some ⟨b10, 0, none⟩)) (pcol := (some ⟨b13, 0, none⟩)) (cp := 2) (ccol := 2) (l := [⟨some ⟨b0, 0, none⟩, 2, [(1, 2), (2, 1)]⟩, ⟨some ⟨b1, 0, none⟩, 1, [(2, 1)]⟩]) (rs := [⟨some ⟨b11, 0, none⟩, 2, [0, -1]⟩, ⟨some ⟨b12, 0, none⟩, 2, [1, 0]⟩]) [[(1, 2), (2, 1)], [(2, 1)]] [[0, -1], [1, 0]] 1 [(1, (0, 0)), (2, (2, 1))] 2 0 x5 rfl rfl rfl rfl rfl (fc (rok rfl) (fc (rok rfl) fn))) (fun g => ⟨⟨(g.cells (j := 10) rfl rfl rfl), (fc (g.cells (j := 0) rfl rfl rfl) (fc (g.cells (j := 1) rfl rfl rfl) fn))⟩, ⟨(g.cells (j := 13) rfl rfl rfl), (fc (g.cells (j := 11) rfl rfl rfl) (fc (g.cells (j := 12) rfl rfl rfl) fn))⟩⟩) ?_
  rintro v mq m9 hle hq ⟨q5, k5, rfl, hR5⟩
  refine ⟨[.p q5, .i (2 : Nat), .i k5, .i 0], uOk_of rfl, (tab_fresh _ _ _ _ _ _).symm, .env (by (try simp only [liE, letsOf, letU, snd, List.append_nil]); rfl) ?_⟩
  have hR5 := Row.le hR5 hq
  replace hT1 := hT1.le' hle
  replace hT4 := hT4.le' hle
  clear hle hq
  refine .join (fun us m => us = [.b false]) ?_ ?_
  · refine .no rfl ?_
    refine .alloc fun b14 => .alloc fun b15 => .alloc fun b16 => .envL (by simp only [List.nil_append, List.cons_append]; rfl) ?_
    refine .callV (same_is (p := q1) (cp := k1) (rs := t1) (q := (some ⟨b16, 0, none⟩)) (cq := 2) (ss := [⟨some ⟨b14, 0, none⟩, 2, [0, 0]⟩, ⟨some ⟨b15, 0, none⟩, 2, [1, -1]⟩]) 2 _ ht1 rfl rfl rfl (fc (rok rfl) (fc (rok rfl) fn))) (fun g => ⟨hT1.reads g, ⟨(g.cells (j := 16) rfl rfl rfl), (fc (g.cells (j := 14) rfl rfl rfl) (fc (g.cells (j := 15) rfl rfl rfl) fn))⟩⟩) (.env (by (try simp only [liE, letsOf, letU, snd, List.append_nil]); rfl) ?_)
    refine .no rfl (.chk rfl (.no rfl (.chk rfl (.no rfl ?_))))
    refine .alloc fun b17 => .alloc fun b18 => .alloc fun b19 => .envL (by simp only [List.nil_append, List.cons_append]; rfl) ?_
    refine .callV (same_is (p := q4) (cp := k4) (rs := t4) (q := (some ⟨b19, 0, none⟩)) (cq := 2) (ss := [⟨some ⟨b17, 0, none⟩, 1, [0]⟩, ⟨some ⟨b18, 0, none⟩, 1, [1]⟩]) 2 _ ht4 rfl rfl rfl (fc (rok rfl) (fc (rok rfl) fn))) (fun g => ⟨hT4.reads g, ⟨(g.cells (j := 19) rfl rfl rfl), (fc (g.cells (j := 17) rfl rfl rfl) (fc (g.cells (j := 18) rfl rfl rfl) fn))⟩⟩) (.env (by (try simp only [liE, letsOf, letU, snd, List.append_nil]); rfl) ?_)
    refine .no rfl (.chk rfl (.no rfl (.loadC0 [(1, (0, 0)), (2, (2, 1))] 0 (1, (0, 0)) rfl (fun g => hR5.reads g) (.env (by (try simp only [liE, letsOf, letU, snd, List.append_nil]); rfl) ?_) rfl rfl)))
    refine .no rfl (.loadC0 [(1, (0, 0)), (2, (2, 1))] 1 (2, (2, 1)) rfl (fun g => hR5.reads g) (.env (by (try simp only [liE, letsOf, letU, snd, List.append_nil]); rfl) ?_) rfl rfl)
    refine .callV c_a (fun _ => trivial) (.env (by (try simp only [liE, letsOf, letU, snd, List.append_nil]); rfl) ?_)
    exact .againL rfl fun gd => rfl
  clear hT1 hT4 hR5 ht1 ht4
  rintro _ m10 _ rfl
  refine .env (by (try simp only [liE, letsOf, letU, snd, List.append_nil]); rfl) (.no rfl ?_)
  refine .alloc fun b14 => .alloc fun b15 => .alloc fun b16 => .alloc fun b17 => .alloc fun b18 => .alloc fun b19 => .alloc fun b20 => .alloc fun b21 => .alloc fun b22 => .alloc fun b23 => .alloc fun b24 => .alloc fun b25 => .alloc fun b26 => .alloc fun b27 => .alloc fun b28 => .alloc fun b29 => .alloc fun b30 => .alloc fun b31 => .alloc fun b32 => .alloc fun b33 => .alloc fun b34 => .alloc fun b35 => .alloc fun b36 => .alloc fun b37 => .alloc fun b38 => .alloc fun b39 => .alloc fun b40 => .envL (by simp only [List.nil_append, List.cons_append]; rfl) ?_
  refine .allocc fun bo hbo _ _ => ?_
  generalize hM : Mem.upd m10 bo _ = m11
  obtain ⟨eo, hO⟩ : ∃ e, m11 bo = some (.cells ([slv (some ⟨b15, 0, none⟩) 1 1, slv (some ⟨b19, 0, none⟩) 3 3, slv (some ⟨b22, 0, none⟩) 2 2, slv (some ⟨b26, 0, none⟩) 3 3, slv (some ⟨b29, 0, none⟩) 2 2, slv (some ⟨b33, 0, none⟩) 3 3, slv (some ⟨b36, 0, none⟩) 2 2, slv (some ⟨b40, 0, none⟩) 3 3, slv none 0 0] : List Value).toArray e (0, 0)) := ⟨_, by rw [← hM]; exact Mem.upd_same _ _ _⟩
  clear hM
  refine .env (by (try simp only [liE, letsOf, letU, snd, List.append_nil]); rfl) (.loop (fun z us m => ∃ k : Nat, us = [.b false, .i k] ∧ z + k = 9 ∧ m11.le m) 9 ⟨0, rfl, rfl, Mem.le.refl _⟩ ?_)
  rintro z _ m _ ⟨k, rfl, hz, hm⟩
  replace hO := hm _ _ hO
  refine .env (by (try simp only [liE, letsOf, letU, snd, List.append_nil]); rfl) (.ite (fun h1 => ?_) (fun h1 => ?_)) <;> ((try simp only [evE, liE, letsOf, letU, snd] at h1); (try simp only [cmE] at h1))
  · have hk : k = 0 ∨ k = 1 ∨ k = 2 ∨ k = 3 ∨ k = 4 ∨ k = 5 ∨ k = 6 ∨ k = 7 ∨ k = 8 := by omega
    rcases hk with rfl | rfl | rfl | rfl | rfl | rfl | rfl | rfl | rfl
    · skip
      refine .loadSl [slv (some ⟨b15, 0, none⟩) 1 1, slv (some ⟨b19, 0, none⟩) 3 3, slv (some ⟨b22, 0, none⟩) 2 2, slv (some ⟨b26, 0, none⟩) 3 3, slv (some ⟨b29, 0, none⟩) 2 2, slv (some ⟨b33, 0, none⟩) 3 3, slv (some ⟨b36, 0, none⟩) 2 2, slv (some ⟨b40, 0, none⟩) 3 3, slv none 0 0] 0 9 (some ⟨b15, 0, none⟩) 1 1 (by decide) rfl (fun g i x h => ⟨bo, 0, rfl, by rw [vw_mem g hO, Nat.zero_add, List.getElem?_toArray]; exact h⟩) (.env (by (try simp only [liE, letsOf, letU, snd, List.append_nil]); rfl) ?_) rfl rfl
      try clear hC
      refine .callE c_costs18 (fun _ => trivial) ?_
      rintro v mq m12 hle hq ⟨d5, rfl, hC⟩
      refine ⟨[.p (some ⟨d5, 0, none⟩), .i (2 : Nat), .i (2 : Nat), .i 1], uOk_of rfl, rfl, .env (by (try simp only [liE, letsOf, letU, snd, List.append_nil]); rfl) ?_⟩
      replace hC := hC.mono hq.mv
      replace hO := hle _ _ hO
      replace hm := hm.trans hle
      clear hle hq
      refine .alloc fun b41 => .envL (by simp only [List.nil_append, List.cons_append]; rfl) ?_
      refine .callV (score_is (p := (some ⟨b41, 0, none⟩)) (pcol := (some ⟨b15, 0, none⟩)) (pc := some ⟨d5, 0, none⟩) (cp := 1) (ccol := 1) (cc := 2) (l := [⟨some ⟨b0, 0, none⟩, 2, [(1, 2), (2, 1)]⟩]) (rs := [⟨some ⟨b14, 0, none⟩, 1, [0]⟩]) (ws := [1, 1]) (gap := 1) [[(1, 2), (2, 1)]] [[0]] 0 8 y0a rfl rfl rfl rfl (fc (rok rfl) fn)) (fun g => ⟨⟨(g.cells (j := 41) rfl rfl rfl), (fc (g.cells (j := 0) rfl rfl rfl) fn)⟩, ⟨(g.cells (j := 15) rfl rfl rfl), (fc (g.cells (j := 14) rfl rfl rfl) fn)⟩, hC.mono g.mv, hV.1.mono g.R⟩) (.env (by (try simp only [liE, letsOf, letU, snd, List.append_nil]); rfl) ?_)
      refine .alloc fun b42 => .envL (by simp only [List.nil_append, List.cons_append]; rfl) ?_
      refine .loadSl [slv (some ⟨b15, 0, none⟩) 1 1, slv (some ⟨b19, 0, none⟩) 3 3, slv (some ⟨b22, 0, none⟩) 2 2, slv (some ⟨b26, 0, none⟩) 3 3, slv (some ⟨b29, 0, none⟩) 2 2, slv (some ⟨b33, 0, none⟩) 3 3, slv (some ⟨b36, 0, none⟩) 2 2, slv (some ⟨b40, 0, none⟩) 3 3, slv none 0 0] 0 9 (some ⟨b15, 0, none⟩) 1 1 (by decide) rfl (fun g i x h => ⟨bo, 0, rfl, by rw [vw_mem g hO, Nat.zero_add, List.getElem?_toArray]; exact h⟩) (.env (by (try simp only [liE, letsOf, letU, snd, List.append_nil]); rfl) ?_) rfl rfl
      refine .callE (row_is (p := (some ⟨b42, 0, none⟩)) (pcol := (some ⟨b15, 0, none⟩)) (cp := 1) (ccol := 1) (l := [⟨some ⟨b0, 0, none⟩, 2, [(1, 2), (2, 1)]⟩]) (rs := [⟨some ⟨b14, 0, none⟩, 1, [0]⟩]) [[(1, 2), (2, 1)]] [[0]] 7 [] 0 8 y0b rfl rfl rfl rfl rfl (fc (rok rfl) fn)) (fun g => ⟨⟨(g.cells (j := 42) rfl rfl rfl), (fc (g.cells (j := 0) rfl rfl rfl) fn)⟩, ⟨(g.cells (j := 15) rfl rfl rfl), (fc (g.cells (j := 14) rfl rfl rfl) fn)⟩⟩) ?_
      rintro v mq m13 hle hq ⟨q6, k6, rfl, hR6⟩
      refine ⟨[.p q6, .i (0 : Nat), .i k6, .i 8], uOk_of rfl, (tab_fresh _ _ _ _ _ _).symm, .env (by (try simp only [liE, letsOf, letU, snd, List.append_nil]); rfl) ?_⟩
      clear hR6
      replace hO := hle _ _ hO
      replace hm := hm.trans hle
      clear hle hq
      refine .alloc fun b43 => .envL (by simp only [List.nil_append, List.cons_append]; rfl) ?_
      refine .loadSl [slv (some ⟨b15, 0, none⟩) 1 1, slv (some ⟨b19, 0, none⟩) 3 3, slv (some ⟨b22, 0, none⟩) 2 2, slv (some ⟨b26, 0, none⟩) 3 3, slv (some ⟨b29, 0, none⟩) 2 2, slv (some ⟨b33, 0, none⟩) 3 3, slv (some ⟨b36, 0, none⟩) 2 2, slv (some ⟨b40, 0, none⟩) 3 3, slv none 0 0] 0 9 (some ⟨b15, 0, none⟩) 1 1 (by decide) rfl (fun g i x h => ⟨bo, 0, rfl, by rw [vw_mem g hO, Nat.zero_add, List.getElem?_toArray]; exact h⟩) (.env (by (try simp only [liE, letsOf, letU, snd, List.append_nil]); rfl) ?_) rfl rfl
      refine .callV (check_is (p := (some ⟨b43, 0, none⟩)) (pcol := (some ⟨b15, 0, none⟩)) (cp := 1) (ccol := 1) (l := [⟨some ⟨b0, 0, none⟩, 2, [(1, 2), (2, 1)]⟩]) (rs := [⟨some ⟨b14, 0, none⟩, 1, [0]⟩]) [[(1, 2), (2, 1)]] [[0]] 8 y0c rfl rfl rfl rfl (fc (rok rfl) fn)) (fun g => ⟨⟨(g.cells (j := 43) rfl rfl rfl), (fc (g.cells (j := 0) rfl rfl rfl) fn)⟩, ⟨(g.cells (j := 15) rfl rfl rfl), (fc (g.cells (j := 14) rfl rfl rfl) fn)⟩⟩) (.env (by (try simp only [liE, letsOf, letU, snd, List.append_nil]); rfl) ?_)
      exact .no rfl (.againL rfl fun gd => ⟨z - 1, by omega, 1, rfl, by omega, hm.trans (gd.leB _ _ 41)⟩)
    · skip
      refine .loadSl [slv (some ⟨b15, 0, none⟩) 1 1, slv (some ⟨b19, 0, none⟩) 3 3, slv (some ⟨b22, 0, none⟩) 2 2, slv (some ⟨b26, 0, none⟩) 3 3, slv (some ⟨b29, 0, none⟩) 2 2, slv (some ⟨b33, 0, none⟩) 3 3, slv (some ⟨b36, 0, none⟩) 2 2, slv (some ⟨b40, 0, none⟩) 3 3, slv none 0 0] 1 9 (some ⟨b19, 0, none⟩) 3 3 (by decide) rfl (fun g i x h => ⟨bo, 0, rfl, by rw [vw_mem g hO, Nat.zero_add, List.getElem?_toArray]; exact h⟩) (.env (by (try simp only [liE, letsOf, letU, snd, List.append_nil]); rfl) ?_) rfl rfl
      try clear hC
      refine .callE c_costs18 (fun _ => trivial) ?_
      rintro v mq m12 hle hq ⟨d6, rfl, hC⟩
      refine ⟨[.p (some ⟨d6, 0, none⟩), .i (2 : Nat), .i (2 : Nat), .i 1], uOk_of rfl, rfl, .env (by (try simp only [liE, letsOf, letU, snd, List.append_nil]); rfl) ?_⟩
      replace hC := hC.mono hq.mv
      replace hO := hle _ _ hO
      replace hm := hm.trans hle
      clear hle hq
      refine .alloc fun b41 => .envL (by simp only [List.nil_append, List.cons_append]; rfl) ?_
      refine .callV (score_is (p := (some ⟨b41, 0, none⟩)) (pcol := (some ⟨b19, 0, none⟩)) (pc := some ⟨d6, 0, none⟩) (cp := 1) (ccol := 3) (cc := 2) (l := [⟨some ⟨b0, 0, none⟩, 2, [(1, 2), (2, 1)]⟩]) (rs := [⟨some ⟨b16, 0, none⟩, 1, [0]⟩, ⟨some ⟨b17, 0, none⟩, 1, [-1]⟩, ⟨some ⟨b18, 0, none⟩, 1, [1]⟩]) (ws := [1, 1]) (gap := 1) [[(1, 2), (2, 1)]] [[0], [-1], [1]] 0 8 y1a rfl rfl rfl rfl (fc (rok rfl) (fc (rok rfl) (fc (rok rfl) fn)))) (fun g => ⟨⟨(g.cells (j := 41) rfl rfl rfl), (fc (g.cells (j := 0) rfl rfl rfl) fn)⟩, ⟨(g.cells (j := 19) rfl rfl rfl), (fc (g.cells (j := 16) rfl rfl rfl) (fc (g.cells (j := 17) rfl rfl rfl) (fc (g.cells (j := 18) rfl rfl rfl) fn)))⟩, hC.mono g.mv, hV.1.mono g.R⟩) (.env (by (try simp only [liE, letsOf, letU, snd, List.append_nil]); rfl) ?_)
      refine .alloc fun b42 => .envL (by simp only [List.nil_append, List.cons_append]; rfl) ?_
      refine .loadSl [slv (some ⟨b15, 0, none⟩) 1 1, slv (some ⟨b19, 0, none⟩) 3 3, slv (some ⟨b22, 0, none⟩) 2 2, slv (some ⟨b26, 0, none⟩) 3 3, slv (some ⟨b29, 0, none⟩) 2 2, slv (some ⟨b33, 0, none⟩) 3 3, slv (some ⟨b36, 0, none⟩) 2 2, slv (some ⟨b40, 0, none⟩) 3 3, slv none 0 0] 1 9 (some ⟨b19, 0, none⟩) 3 3 (by decide) rfl (fun g i x h => ⟨bo, 0, rfl, by rw [vw_mem g hO, Nat.zero_add, List.getElem?_toArray]; exact h⟩) (.env (by (try simp only [liE, letsOf, letU, snd, List.append_nil]); rfl) ?_) rfl rfl
      refine .callE (row_is (p := (some ⟨b42, 0, none⟩)) (pcol := (some ⟨b19, 0, none⟩)) (cp := 1) (ccol := 3) (l := [⟨some ⟨b0, 0, none⟩, 2, [(1, 2), (2, 1)]⟩]) (rs := [⟨some ⟨b16, 0, none⟩, 1, [0]⟩, ⟨some ⟨b17, 0, none⟩, 1, [-1]⟩, ⟨some ⟨b18, 0, none⟩, 1, [1]⟩]) [[(1, 2), (2, 1)]] [[0], [-1], [1]] 7 [] 0 8 y1b rfl rfl rfl rfl rfl (fc (rok rfl) (fc (rok rfl) (fc (rok rfl) fn)))) (fun g => ⟨⟨(g.cells (j := 42) rfl rfl rfl), (fc (g.cells (j := 0) rfl rfl rfl) fn)⟩, ⟨(g.cells (j := 19) rfl rfl rfl), (fc (g.cells (j := 16) rfl rfl rfl) (fc (g.cells (j := 17) rfl rfl rfl) (fc (g.cells (j := 18) rfl rfl rfl) fn)))⟩⟩) ?_
      rintro v mq m13 hle hq ⟨q7, k7, rfl, hR7⟩
      refine ⟨[.p q7, .i (0 : Nat), .i k7, .i 8], uOk_of rfl, (tab_fresh _ _ _ _ _ _).symm, .env (by (try simp only [liE, letsOf, letU, snd, List.append_nil]); rfl) ?_⟩
      clear hR7
      replace hO := hle _ _ hO
      replace hm := hm.trans hle
      clear hle hq
      refine .alloc fun b43 => .envL (by simp only [List.nil_append, List.cons_append]; rfl) ?_
      refine .loadSl [slv (some ⟨b15, 0, none⟩) 1 1, slv (some ⟨b19, 0, none⟩) 3 3, slv (some ⟨b22, 0, none⟩) 2 2, slv (some ⟨b26, 0, none⟩) 3 3, slv (some ⟨b29, 0, none⟩) 2 2, slv (some ⟨b33, 0, none⟩) 3 3, slv (some ⟨b36, 0, none⟩) 2 2, slv (some ⟨b40, 0, none⟩) 3 3, slv none 0 0] 1 9 (some ⟨b19, 0, none⟩) 3 3 (by decide) rfl (fun g i x h => ⟨bo, 0, rfl, by rw [vw_mem g hO, Nat.zero_add, List.getElem?_toArray]; exact h⟩) (.env (by (try simp only [liE, letsOf, letU, snd, List.append_nil]); rfl) ?_) rfl rfl
      refine .callV (check_is (p := (some ⟨b43, 0, none⟩)) (pcol := (some ⟨b19, 0, none⟩)) (cp := 1) (ccol := 3) (l := [⟨some ⟨b0, 0, none⟩, 2, [(1, 2), (2, 1)]⟩]) (rs := [⟨some ⟨b16, 0, none⟩, 1, [0]⟩, ⟨some ⟨b17, 0, none⟩, 1, [-1]⟩, ⟨some ⟨b18, 0, none⟩, 1, [1]⟩]) [[(1, 2), (2, 1)]] [[0], [-1], [1]] 8 y1c rfl rfl rfl rfl (fc (rok rfl) (fc (rok rfl) (fc (rok rfl) fn)))) (fun g => ⟨⟨(g.cells (j := 43) rfl rfl rfl), (fc (g.cells (j := 0) rfl rfl rfl) fn)⟩, ⟨(g.cells (j := 19) rfl rfl rfl), (fc (g.cells (j := 16) rfl rfl rfl) (fc (g.cells (j := 17) rfl rfl rfl) (fc (g.cells (j := 18) rfl rfl rfl) fn)))⟩⟩) (.env (by (try simp only [liE, letsOf, letU, snd, List.append_nil]); rfl) ?_)
      exact .no rfl (.againL rfl fun gd => ⟨z - 1, by omega, 2, rfl, by omega, hm.trans (gd.leB _ _ 41)⟩)
    · skip
      refine .loadSl [slv (some ⟨b15, 0, none⟩) 1 1, slv (some ⟨b19, 0, none⟩) 3 3, slv (some ⟨b22, 0, none⟩) 2 2, slv (some ⟨b26, 0, none⟩) 3 3, slv (some ⟨b29, 0, none⟩) 2 2, slv (some ⟨b33, 0, none⟩) 3 3, slv (some ⟨b36, 0, none⟩) 2 2, slv (some ⟨b40, 0, none⟩) 3 3, slv none 0 0] 2 9 (some ⟨b22, 0, none⟩) 2 2 (by decide) rfl (fun g i x h => ⟨bo, 0, rfl, by rw [vw_mem g hO, Nat.zero_add, List.getElem?_toArray]; exact h⟩) (.env (by (try simp only [liE, letsOf, letU, snd, List.append_nil]); rfl) ?_) rfl rfl
      try clear hC
      refine .callE c_costs18 (fun _ => trivial) ?_
      rintro v mq m12 hle hq ⟨d7, rfl, hC⟩
      refine ⟨[.p (some ⟨d7, 0, none⟩), .i (2 : Nat), .i (2 : Nat), .i 1], uOk_of rfl, rfl, .env (by (try simp only [liE, letsOf, letU, snd, List.append_nil]); rfl) ?_⟩
      replace hC := hC.mono hq.mv
      replace hO := hle _ _ hO
      replace hm := hm.trans hle
      clear hle hq
      refine .alloc fun b41 => .envL (by simp only [List.nil_append, List.cons_append]; rfl) ?_
      refine .callV (score_is (p := (some ⟨b41, 0, none⟩)) (pcol := (some ⟨b22, 0, none⟩)) (pc := some ⟨d7, 0, none⟩) (cp := 1) (ccol := 2) (cc := 2) (l := [⟨some ⟨b0, 0, none⟩, 2, [(1, 2), (2, 1)]⟩]) (rs := [⟨some ⟨b20, 0, none⟩, 1, [1]⟩, ⟨some ⟨b21, 0, none⟩, 1, [0]⟩]) (ws := [1, 1]) (gap := 1) [[(1, 2), (2, 1)]] [[1], [0]] 0 8 y2a rfl rfl rfl rfl (fc (rok rfl) (fc (rok rfl) fn))) (fun g => ⟨⟨(g.cells (j := 41) rfl rfl rfl), (fc (g.cells (j := 0) rfl rfl rfl) fn)⟩, ⟨(g.cells (j := 22) rfl rfl rfl), (fc (g.cells (j := 20) rfl rfl rfl) (fc (g.cells (j := 21) rfl rfl rfl) fn))⟩, hC.mono g.mv, hV.1.mono g.R⟩) (.env (by (try simp only [liE, letsOf, letU, snd, List.append_nil]); rfl) ?_)
      refine .alloc fun b42 => .envL (by simp only [List.nil_append, List.cons_append]; rfl) ?_
      refine .loadSl [slv (some ⟨b15, 0, none⟩) 1 1, slv (some ⟨b19, 0, none⟩) 3 3, slv (some ⟨b22, 0, none⟩) 2 2, slv (some ⟨b26, 0, none⟩) 3 3, slv (some ⟨b29, 0, none⟩) 2 2, slv (some ⟨b33, 0, none⟩) 3 3, slv (some ⟨b36, 0, none⟩) 2 2, slv (some ⟨b40, 0, none⟩) 3 3, slv none 0 0] 2 9 (some ⟨b22, 0, none⟩) 2 2 (by decide) rfl (fun g i x h => ⟨bo, 0, rfl, by rw [vw_mem g hO, Nat.zero_add, List.getElem?_toArray]; exact h⟩) (.env (by (try simp only [liE, letsOf, letU, snd, List.append_nil]); rfl) ?_) rfl rfl
      refine .callE (row_is (p := (some ⟨b42, 0, none⟩)) (pcol := (some ⟨b22, 0, none⟩)) (cp := 1) (ccol := 2) (l := [⟨some ⟨b0, 0, none⟩, 2, [(1, 2), (2, 1)]⟩]) (rs := [⟨some ⟨b20, 0, none⟩, 1, [1]⟩, ⟨some ⟨b21, 0, none⟩, 1, [0]⟩]) [[(1, 2), (2, 1)]] [[1], [0]] 7 [] 0 8 y2b rfl rfl rfl rfl rfl (fc (rok rfl) (fc (rok rfl) fn))) (fun g => ⟨⟨(g.cells (j := 42) rfl rfl rfl), (fc (g.cells (j := 0) rfl rfl rfl) fn)⟩, ⟨(g.cells (j := 22) rfl rfl rfl), (fc (g.cells (j := 20) rfl rfl rfl) (fc (g.cells (j := 21) rfl rfl rfl) fn))⟩⟩) ?_
      rintro v mq m13 hle hq ⟨q8, k8, rfl, hR8⟩
      refine ⟨[.p q8, .i (0 : Nat), .i k8, .i 8], uOk_of rfl, (tab_fresh _ _ _ _ _ _).symm, .env (by (try simp only [liE, letsOf, letU, snd, List.append_nil]); rfl) ?_⟩
      clear hR8
      replace hO := hle _ _ hO
      replace hm := hm.trans hle
      clear hle hq
      refine .alloc fun b43 => .envL (by simp only [List.nil_append, List.cons_append]; rfl) ?_
      refine .loadSl [slv (some ⟨b15, 0, none⟩) 1 1, slv (some ⟨b19, 0, none⟩) 3 3, slv (some ⟨b22, 0, none⟩) 2 2, slv (some ⟨b26, 0, none⟩) 3 3, slv (some ⟨b29, 0, none⟩) 2 2, slv (some ⟨b33, 0, none⟩) 3 3, slv (some ⟨b36, 0, none⟩) 2 2, slv (some ⟨b40, 0, none⟩) 3 3, slv none 0 0] 2 9 (some ⟨b22, 0, none⟩) 2 2 (by decide) rfl (fun g i x h => ⟨bo, 0, rfl, by rw [vw_mem g hO, Nat.zero_add, List.getElem?_toArray]; exact h⟩) (.env (by (try simp only [liE, letsOf, letU, snd, List.append_nil]); rfl) ?_) rfl rfl
      refine .callV (check_is (p := (some ⟨b43, 0, none⟩)) (pcol := (some ⟨b22, 0, none⟩)) (cp := 1) (ccol := 2) (l := [⟨some ⟨b0, 0, none⟩, 2, [(1, 2), (2, 1)]⟩]) (rs := [⟨some ⟨b20, 0, none⟩, 1, [1]⟩, ⟨some ⟨b21, 0, none⟩, 1, [0]⟩]) [[(1, 2), (2, 1)]] [[1], [0]] 8 y2c rfl rfl rfl rfl (fc (rok rfl) (fc (rok rfl) fn))) (fun g => ⟨⟨(g.cells (j := 43) rfl rfl rfl), (fc (g.cells (j := 0) rfl rfl rfl) fn)⟩, ⟨(g.cells (j := 22) rfl rfl rfl), (fc (g.cells (j := 20) rfl rfl rfl) (fc (g.cells (j := 21) rfl rfl rfl) fn))⟩⟩) (.env (by (try simp only [liE, letsOf, letU, snd, List.append_nil]); rfl) ?_)
      exact .no rfl (.againL rfl fun gd => ⟨z - 1, by omega, 3, rfl, by omega, hm.trans (gd.leB _ _ 41)⟩)
    · skip
      refine .loadSl [slv (some ⟨b15, 0, none⟩) 1 1, slv (some ⟨b19, 0, none⟩) 3 3, slv (some ⟨b22, 0, none⟩) 2 2, slv (some ⟨b26, 0, none⟩) 3 3, slv (some ⟨b29, 0, none⟩) 2 2, slv (some ⟨b33, 0, none⟩) 3 3, slv (some ⟨b36, 0, none⟩) 2 2, slv (some ⟨b40, 0, none⟩) 3 3, slv none 0 0] 3 9 (some ⟨b26, 0, none⟩) 3 3 (by decide) rfl (fun g i x h => ⟨bo, 0, rfl, by rw [vw_mem g hO, Nat.zero_add, List.getElem?_toArray]; exact h⟩) (.env (by (try simp only [liE, letsOf, letU, snd, List.append_nil]); rfl) ?_) rfl rfl
      try clear hC
      refine .callE c_costs18 (fun _ => trivial) ?_
      rintro v mq m12 hle hq ⟨d8, rfl, hC⟩
      refine ⟨[.p (some ⟨d8, 0, none⟩), .i (2 : Nat), .i (2 : Nat), .i 1], uOk_of rfl, rfl, .env (by (try simp only [liE, letsOf, letU, snd, List.append_nil]); rfl) ?_⟩
      replace hC := hC.mono hq.mv
      replace hO := hle _ _ hO
      replace hm := hm.trans hle
      clear hle hq
      refine .alloc fun b41 => .envL (by simp only [List.nil_append, List.cons_append]; rfl) ?_
      refine .callV (score_is (p := (some ⟨b41, 0, none⟩)) (pcol := (some ⟨b26, 0, none⟩)) (pc := some ⟨d8, 0, none⟩) (cp := 1) (ccol := 3) (cc := 2) (l := [⟨some ⟨b0, 0, none⟩, 2, [(1, 2), (2, 1)]⟩]) (rs := [⟨some ⟨b23, 0, none⟩, 1, [0]⟩, ⟨some ⟨b24, 0, none⟩, 1, [0]⟩, ⟨some ⟨b25, 0, none⟩, 1, [1]⟩]) (ws := [1, 1]) (gap := 1) [[(1, 2), (2, 1)]] [[0], [0], [1]] 0 8 y3a rfl rfl rfl rfl (fc (rok rfl) (fc (rok rfl) (fc (rok rfl) fn)))) (fun g => ⟨⟨(g.cells (j := 41) rfl rfl rfl), (fc (g.cells (j := 0) rfl rfl rfl) fn)⟩, ⟨(g.cells (j := 26) rfl rfl rfl), (fc (g.cells (j := 23) rfl rfl rfl) (fc (g.cells (j := 24) rfl rfl rfl) (fc (g.cells (j := 25) rfl rfl rfl) fn)))⟩, hC.mono g.mv, hV.1.mono g.R⟩) (.env (by (try simp only [liE, letsOf, letU, snd, List.append_nil]); rfl) ?_)
      refine .alloc fun b42 => .envL (by simp only [List.nil_append, List.cons_append]; rfl) ?_
      refine .loadSl [slv (some ⟨b15, 0, none⟩) 1 1, slv (some ⟨b19, 0, none⟩) 3 3, slv (some ⟨b22, 0, none⟩) 2 2, slv (some ⟨b26, 0, none⟩) 3 3, slv (some ⟨b29, 0, none⟩) 2 2, slv (some ⟨b33, 0, none⟩) 3 3, slv (some ⟨b36, 0, none⟩) 2 2, slv (some ⟨b40, 0, none⟩) 3 3, slv none 0 0] 3 9 (some ⟨b26, 0, none⟩) 3 3 (by decide) rfl (fun g i x h => ⟨bo, 0, rfl, by rw [vw_mem g hO, Nat.zero_add, List.getElem?_toArray]; exact h⟩) (.env (by (try simp only [liE, letsOf, letU, snd, List.append_nil]); rfl) ?_) rfl rfl
      refine .callE (row_is (p := (some ⟨b42, 0, none⟩)) (pcol := (some ⟨b26, 0, none⟩)) (cp := 1) (ccol := 3) (l := [⟨some ⟨b0, 0, none⟩, 2, [(1, 2), (2, 1)]⟩]) (rs := [⟨some ⟨b23, 0, none⟩, 1, [0]⟩, ⟨some ⟨b24, 0, none⟩, 1, [0]⟩, ⟨some ⟨b25, 0, none⟩, 1, [1]⟩]) [[(1, 2), (2, 1)]] [[0], [0], [1]] 7 [] 0 8 y3b rfl rfl rfl rfl rfl (fc (rok rfl) (fc (rok rfl) (fc (rok rfl) fn)))) (fun g => ⟨⟨(g.cells (j := 42) rfl rfl rfl), (fc (g.cells (j := 0) rfl rfl rfl) fn)⟩, ⟨(g.cells (j := 26) rfl rfl rfl), (fc (g.cells (j := 23) rfl rfl rfl) (fc (g.cells (j := 24) rfl rfl rfl) (fc (g.cells (j := 25) rfl rfl rfl) fn)))⟩⟩) ?_
      rintro v mq m13 hle hq ⟨q9, k9, rfl, hR9⟩
      refine ⟨[.p q9, .i (0 : Nat), .i k9, .i 8], uOk_of rfl, (tab_fresh _ _ _ _ _ _).symm, .env (by (try simp only [liE, letsOf, letU, snd, List.append_nil]); rfl) ?_⟩
      clear hR9
      replace hO := hle _ _ hO
      replace hm := hm.trans hle
      clear hle hq
      refine .alloc fun b43 => .envL (by simp only [List.nil_append, List.cons_append]; rfl) ?_
      refine .loadSl [slv (some ⟨b15, 0, none⟩) 1 1, slv (some ⟨b19, 0, none⟩) 3 3, slv (some ⟨b22, 0, none⟩) 2 2, slv (some ⟨b26, 0, none⟩) 3 3, slv (some ⟨b29, 0, none⟩) 2 2, slv (some ⟨b33, 0, none⟩) 3 3, slv (some ⟨b36, 0, none⟩) 2 2, slv (some ⟨b40, 0, none⟩) 3 3, slv none 0 0] 3 9 (some ⟨b26, 0, none⟩) 3 3 (by decide) rfl (fun g i x h => ⟨bo, 0, rfl, by rw [vw_mem g hO, Nat.zero_add, List.getElem?_toArray]; exact h⟩) (.env (by (try simp only [liE, letsOf, letU, snd, List.append_nil]); rfl) ?_) rfl rfl
      refine .callV (check_is (p := (some ⟨b43, 0, none⟩)) (pcol := (some ⟨b26, 0, none⟩)) (cp := 1) (ccol := 3) (l := [⟨some ⟨b0, 0, none⟩, 2, [(1, 2), (2, 1)]⟩]) (rs := [⟨some ⟨b23, 0, none⟩, 1, [0]⟩, ⟨some ⟨b24, 0, none⟩, 1, [0]⟩, ⟨some ⟨b25, 0, none⟩, 1, [1]⟩]) [[(1, 2), (2, 1)]] [[0], [0], [1]] 8 y3c rfl rfl rfl rfl (fc (rok rfl) (fc (rok rfl) (fc (rok rfl) fn)))) (fun g => ⟨⟨(g.cells (j := 43) rfl rfl rfl), (fc (g.cells (j := 0) rfl rfl rfl) fn)⟩, ⟨(g.cells (j := 26) rfl rfl rfl), (fc (g.cells (j := 23) rfl rfl rfl) (fc (g.cells (j := 24) rfl rfl rfl) (fc (g.cells (j := 25) rfl rfl rfl) fn)))⟩⟩) (.env (by (try simp only [liE, letsOf, letU, snd, List.append_nil]); rfl) ?_)
      exact .no rfl (.againL rfl fun gd => ⟨z - 1, by omega, 4, rfl, by omega, hm.trans (gd.leB _ _ 41)⟩)
    · skip
      refine .loadSl [slv (some ⟨b15, 0, none⟩) 1 1, slv (some ⟨b19, 0, none⟩) 3 3, slv (some ⟨b22, 0, none⟩) 2 2, slv (some ⟨b26, 0, none⟩) 3 3, slv (some ⟨b29, 0, none⟩) 2 2, slv (some ⟨b33, 0, none⟩) 3 3, slv (some ⟨b36, 0, none⟩) 2 2, slv (some ⟨b40, 0, none⟩) 3 3, slv none 0 0] 4 9 (some ⟨b29, 0, none⟩) 2 2 (by decide) rfl (fun g i x h => ⟨bo, 0, rfl, by rw [vw_mem g hO, Nat.zero_add, List.getElem?_toArray]; exact h⟩) (.env (by (try simp only [liE, letsOf, letU, snd, List.append_nil]); rfl) ?_) rfl rfl
      try clear hC
      refine .callE c_costs18 (fun _ => trivial) ?_
      rintro v mq m12 hle hq ⟨d9, rfl, hC⟩
      refine ⟨[.p (some ⟨d9, 0, none⟩), .i (2 : Nat), .i (2 : Nat), .i 1], uOk_of rfl, rfl, .env (by (try simp only [liE, letsOf, letU, snd, List.append_nil]); rfl) ?_⟩
      replace hC := hC.mono hq.mv
      replace hO := hle _ _ hO
      replace hm := hm.trans hle
      clear hle hq
      refine .alloc fun b41 => .envL (by simp only [List.nil_append, List.cons_append]; rfl) ?_
      refine .callV (score_is (p := (some ⟨b41, 0, none⟩)) (pcol := (some ⟨b29, 0, none⟩)) (pc := some ⟨d9, 0, none⟩) (cp := 1) (ccol := 2) (cc := 2) (l := [⟨some ⟨b0, 0, none⟩, 2, [(1, 2), (2, 1)]⟩]) (rs := [⟨some ⟨b27, 0, none⟩, 2, [0, 0]⟩, ⟨some ⟨b28, 0, none⟩, 2, [1, 1]⟩]) (ws := [1, 1]) (gap := 1) [[(1, 2), (2, 1)]] [[0, 0], [1, 1]] 0 8 y4a rfl rfl rfl rfl (fc (rok rfl) (fc (rok rfl) fn))) (fun g => ⟨⟨(g.cells (j := 41) rfl rfl rfl), (fc (g.cells (j := 0) rfl rfl rfl) fn)⟩, ⟨(g.cells (j := 29) rfl rfl rfl), (fc (g.cells (j := 27) rfl rfl rfl) (fc (g.cells (j := 28) rfl rfl rfl) fn))⟩, hC.mono g.mv, hV.1.mono g.R⟩) (.env (by (try simp only [liE, letsOf, letU, snd, List.append_nil]); rfl) ?_)
      refine .alloc fun b42 => .envL (by simp only [List.nil_append, List.cons_append]; rfl) ?_
      refine .loadSl [slv (some ⟨b15, 0, none⟩) 1 1, slv (some ⟨b19, 0, none⟩) 3 3, slv (some ⟨b22, 0, none⟩) 2 2, slv (some ⟨b26, 0, none⟩) 3 3, slv (some ⟨b29, 0, none⟩) 2 2, slv (some ⟨b33, 0, none⟩) 3 3, slv (some ⟨b36, 0, none⟩) 2 2, slv (some ⟨b40, 0, none⟩) 3 3, slv none 0 0] 4 9 (some ⟨b29, 0, none⟩) 2 2 (by decide) rfl (fun g i x h => ⟨bo, 0, rfl, by rw [vw_mem g hO, Nat.zero_add, List.getElem?_toArray]; exact h⟩) (.env (by (try simp only [liE, letsOf, letU, snd, List.append_nil]); rfl) ?_) rfl rfl
      refine .callE (row_is (p := (some ⟨b42, 0, none⟩)) (pcol := (some ⟨b29, 0, none⟩)) (cp := 1) (ccol := 2) (l := [⟨some ⟨b0, 0, none⟩, 2, [(1, 2), (2, 1)]⟩]) (rs := [⟨some ⟨b27, 0, none⟩, 2, [0, 0]⟩, ⟨some ⟨b28, 0, none⟩, 2, [1, 1]⟩]) [[(1, 2), (2, 1)]] [[0, 0], [1, 1]] 7 [] 0 8 y4b rfl rfl rfl rfl rfl (fc (rok rfl) (fc (rok rfl) fn))) (fun g => ⟨⟨(g.cells (j := 42) rfl rfl rfl), (fc (g.cells (j := 0) rfl rfl rfl) fn)⟩, ⟨(g.cells (j := 29) rfl rfl rfl), (fc (g.cells (j := 27) rfl rfl rfl) (fc (g.cells (j := 28) rfl rfl rfl) fn))⟩⟩) ?_
      rintro v mq m13 hle hq ⟨q10, k10, rfl, hR10⟩
      refine ⟨[.p q10, .i (0 : Nat), .i k10, .i 8], uOk_of rfl, (tab_fresh _ _ _ _ _ _).symm, .env (by (try simp only [liE, letsOf, letU, snd, List.append_nil]); rfl) ?_⟩
      clear hR10
      replace hO := hle _ _ hO
      replace hm := hm.trans hle
      clear hle hq
      refine .alloc fun b43 => .envL (by simp only [List.nil_append, List.cons_append]; rfl) ?_
      refine .loadSl [slv (some ⟨b15, 0, none⟩) 1 1, slv (some ⟨b19, 0, none⟩) 3 3, slv (some ⟨b22, 0, none⟩) 2 2, slv (some ⟨b26, 0, none⟩) 3 3, slv (some ⟨b29, 0, none⟩) 2 2, slv (some ⟨b33, 0, none⟩) 3 3, slv (some ⟨b36, 0, none⟩) 2 2, slv (some ⟨b40, 0, none⟩) 3 3, slv none 0 0] 4 9 (some ⟨b29, 0, none⟩) 2 2 (by decide) rfl (fun g i x h => ⟨bo, 0, rfl, by rw [vw_mem g hO, Nat.zero_add, List.getElem?_toArray]; exact h⟩) (.env (by (try simp only [liE, letsOf, letU, snd, List.append_nil]); rfl) ?_) rfl rfl
      refine .callV (check_is (p := (some ⟨b43, 0, none⟩)) (pcol := (some ⟨b29, 0, none⟩)) (cp := 1) (ccol := 2) (l := [⟨some ⟨b0, 0, none⟩, 2, [(1, 2), (2, 1)]⟩]) (rs := [⟨some ⟨b27, 0, none⟩, 2, [0, 0]⟩, ⟨some ⟨b28, 0, none⟩, 2, [1, 1]⟩]) [[(1, 2), (2, 1)]] [[0, 0], [1, 1]] 8 y4c rfl rfl rfl rfl (fc (rok rfl) (fc (rok rfl) fn))) (fun g => ⟨⟨(g.cells (j := 43) rfl rfl rfl), (fc (g.cells (j := 0) rfl rfl rfl) fn)⟩, ⟨(g.cells (j := 29) rfl rfl rfl), (fc (g.cells (j := 27) rfl rfl rfl) (fc (g.cells (j := 28) rfl rfl rfl) fn))⟩⟩) (.env (by (try simp only [liE, letsOf, letU, snd, List.append_nil]); rfl) ?_)
      exact .no rfl (.againL rfl fun gd => ⟨z - 1, by omega, 5, rfl, by omega, hm.trans (gd.leB _ _ 41)⟩)
    · skip
      refine .loadSl [slv (some ⟨b15, 0, none⟩) 1 1, slv (some ⟨b19, 0, none⟩) 3 3, slv (some ⟨b22, 0, none⟩) 2 2, slv (some ⟨b26, 0, none⟩) 3 3, slv (some ⟨b29, 0, none⟩) 2 2, slv (some ⟨b33, 0, none⟩) 3 3, slv (some ⟨b36, 0, none⟩) 2 2, slv (some ⟨b40, 0, none⟩) 3 3, slv none 0 0] 5 9 (some ⟨b33, 0, none⟩) 3 3 (by decide) rfl (fun g i x h => ⟨bo, 0, rfl, by rw [vw_mem g hO, Nat.zero_add, List.getElem?_toArray]; exact h⟩) (.env (by (try simp only [liE, letsOf, letU, snd, List.append_nil]); rfl) ?_) rfl rfl
      try clear hC
      refine .callE c_costs18 (fun _ => trivial) ?_
      rintro v mq m12 hle hq ⟨d10, rfl, hC⟩
      refine ⟨[.p (some ⟨d10, 0, none⟩), .i (2 : Nat), .i (2 : Nat), .i 1], uOk_of rfl, rfl, .env (by (try simp only [liE, letsOf, letU, snd, List.append_nil]); rfl) ?_⟩
      replace hC := hC.mono hq.mv
      replace hO := hle _ _ hO
      replace hm := hm.trans hle
      clear hle hq
      refine .alloc fun b41 => .envL (by simp only [List.nil_append, List.cons_append]; rfl) ?_
      refine .callV (score_is (p := (some ⟨b41, 0, none⟩)) (pcol := (some ⟨b33, 0, none⟩)) (pc := some ⟨d10, 0, none⟩) (cp := 1) (ccol := 3) (cc := 2) (l := [⟨some ⟨b0, 0, none⟩, 2, [(1, 2), (2, 1)]⟩]) (rs := [⟨some ⟨b30, 0, none⟩, 1, [0]⟩, ⟨some ⟨b31, 0, none⟩, 1, [1]⟩, ⟨some ⟨b32, 0, none⟩, 1, [2]⟩]) (ws := [1, 1]) (gap := 1) [[(1, 2), (2, 1)]] [[0], [1], [2]] 0 8 y5a rfl rfl rfl rfl (fc (rok rfl) (fc (rok rfl) (fc (rok rfl) fn)))) (fun g => ⟨⟨(g.cells (j := 41) rfl rfl rfl), (fc (g.cells (j := 0) rfl rfl rfl) fn)⟩, ⟨(g.cells (j := 33) rfl rfl rfl), (fc (g.cells (j := 30) rfl rfl rfl) (fc (g.cells (j := 31) rfl rfl rfl) (fc (g.cells (j := 32) rfl rfl rfl) fn)))⟩, hC.mono g.mv, hV.1.mono g.R⟩) (.env (by (try simp only [liE, letsOf, letU, snd, List.append_nil]); rfl) ?_)
      refine .alloc fun b42 => .envL (by simp only [List.nil_append, List.cons_append]; rfl) ?_
      refine .loadSl [slv (some ⟨b15, 0, none⟩) 1 1, slv (some ⟨b19, 0, none⟩) 3 3, slv (some ⟨b22, 0, none⟩) 2 2, slv (some ⟨b26, 0, none⟩) 3 3, slv (some ⟨b29, 0, none⟩) 2 2, slv (some ⟨b33, 0, none⟩) 3 3, slv (some ⟨b36, 0, none⟩) 2 2, slv (some ⟨b40, 0, none⟩) 3 3, slv none 0 0] 5 9 (some ⟨b33, 0, none⟩) 3 3 (by decide) rfl (fun g i x h => ⟨bo, 0, rfl, by rw [vw_mem g hO, Nat.zero_add, List.getElem?_toArray]; exact h⟩) (.env (by (try simp only [liE, letsOf, letU, snd, List.append_nil]); rfl) ?_) rfl rfl
      refine .callE (row_is (p := (some ⟨b42, 0, none⟩)) (pcol := (some ⟨b33, 0, none⟩)) (cp := 1) (ccol := 3) (l := [⟨some ⟨b0, 0, none⟩, 2, [(1, 2), (2, 1)]⟩]) (rs := [⟨some ⟨b30, 0, none⟩, 1, [0]⟩, ⟨some ⟨b31, 0, none⟩, 1, [1]⟩, ⟨some ⟨b32, 0, none⟩, 1, [2]⟩]) [[(1, 2), (2, 1)]] [[0], [1], [2]] 7 [] 0 8 y5b rfl rfl rfl rfl rfl (fc (rok rfl) (fc (rok rfl) (fc (rok rfl) fn)))) (fun g => ⟨⟨(g.cells (j := 42) rfl rfl rfl), (fc (g.cells (j := 0) rfl rfl rfl) fn)⟩, ⟨(g.cells (j := 33) rfl rfl rfl), (fc (g.cells (j := 30) rfl rfl rfl) (fc (g.cells (j := 31) rfl rfl rfl) (fc (g.cells (j := 32) rfl rfl rfl) fn)))⟩⟩) ?_
      rintro v mq m13 hle hq ⟨q11, k11, rfl, hR11⟩
      refine ⟨[.p q11, .i (0 : Nat), .i k11, .i 8], uOk_of rfl, (tab_fresh _ _ _ _ _ _).symm, .env (by (try simp only [liE, letsOf, letU, snd, List.append_nil]); rfl) ?_⟩
      clear hR11
      replace hO := hle _ _ hO
      replace hm := hm.trans hle
      clear hle hq
      refine .alloc fun b43 => .envL (by simp only [List.nil_append, List.cons_append]; rfl) ?_
      refine .loadSl [slv (some ⟨b15, 0, none⟩) 1 1, slv (some ⟨b19, 0, none⟩) 3 3, slv (some ⟨b22, 0, none⟩) 2 2, slv (some ⟨b26, 0, none⟩) 3 3, slv (some ⟨b29, 0, none⟩) 2 2, slv (some ⟨b33, 0, none⟩) 3 3, slv (some ⟨b36, 0, none⟩) 2 2, slv (some ⟨b40, 0, none⟩) 3 3, slv none 0 0] 5 9 (some ⟨b33, 0, none⟩) 3 3 (by decide) rfl (fun g i x h => ⟨bo, 0, rfl, by rw [vw_mem g hO, Nat.zero_add, List.getElem?_toArray]; exact h⟩) (.env (by (try simp only [liE, letsOf, letU, snd, List.append_nil]); rfl) ?_) rfl rfl
      refine .callV (check_is (p := (some ⟨b43, 0, none⟩)) (pcol := (some ⟨b33, 0, none⟩)) (cp := 1) (ccol := 3) (l := [⟨some ⟨b0, 0, none⟩, 2, [(1, 2), (2, 1)]⟩]) (rs := [⟨some ⟨b30, 0, none⟩, 1, [0]⟩, ⟨some ⟨b31, 0, none⟩, 1, [1]⟩, ⟨some ⟨b32, 0, none⟩, 1, [2]⟩]) [[(1, 2), (2, 1)]] [[0], [1], [2]] 8 y5c rfl rfl rfl rfl (fc (rok rfl) (fc (rok rfl) (fc (rok rfl) fn)))) (fun g => ⟨⟨(g.cells (j := 43) rfl rfl rfl), (fc (g.cells (j := 0) rfl rfl rfl) fn)⟩, ⟨(g.cells (j := 33) rfl rfl rfl), (fc (g.cells (j := 30) rfl rfl rfl) (fc (g.cells (j := 31) rfl rfl rfl) (fc (g.cells (j := 32) rfl rfl rfl) fn)))⟩⟩) (.env (by (try simp only [liE, letsOf, letU, snd, List.append_nil]); rfl) ?_)
      exact .no rfl (.againL rfl fun gd => ⟨z - 1, by omega, 6, rfl, by omega, hm.trans (gd.leB _ _ 41)⟩)
    · skip
      refine .loadSl [slv (some ⟨b15, 0, none⟩) 1 1, slv (some ⟨b19, 0, none⟩) 3 3, slv (some ⟨b22, 0, none⟩) 2 2, slv (some ⟨b26, 0, none⟩) 3 3, slv (some ⟨b29, 0, none⟩) 2 2, slv (some ⟨b33, 0, none⟩) 3 3, slv (some ⟨b36, 0, none⟩) 2 2, slv (some ⟨b40, 0, none⟩) 3 3, slv none 0 0] 6 9 (some ⟨b36, 0, none⟩) 2 2 (by decide) rfl (fun g i x h => ⟨bo, 0, rfl, by rw [vw_mem g hO, Nat.zero_add, List.getElem?_toArray]; exact h⟩) (.env (by (try simp only [liE, letsOf, letU, snd, List.append_nil]); rfl) ?_) rfl rfl
      try clear hC
      refine .callE c_costs18 (fun _ => trivial) ?_
      rintro v mq m12 hle hq ⟨d11, rfl, hC⟩
      refine ⟨[.p (some ⟨d11, 0, none⟩), .i (2 : Nat), .i (2 : Nat), .i 1], uOk_of rfl, rfl, .env (by (try simp only [liE, letsOf, letU, snd, List.append_nil]); rfl) ?_⟩
      replace hC := hC.mono hq.mv
      replace hO := hle _ _ hO
      replace hm := hm.trans hle
      clear hle hq
      refine .alloc fun b41 => .envL (by simp only [List.nil_append, List.cons_append]; rfl) ?_
      refine .callV (score_is (p := (some ⟨b41, 0, none⟩)) (pcol := (some ⟨b36, 0, none⟩)) (pc := some ⟨d11, 0, none⟩) (cp := 1) (ccol := 2) (cc := 2) (l := [⟨some ⟨b0, 0, none⟩, 2, [(1, 2), (2, 1)]⟩]) (rs := [⟨some ⟨b34, 0, none⟩, 1, [0]⟩, ⟨some ⟨b35, 0, none⟩, 0, []⟩]) (ws := [1, 1]) (gap := 1) [[(1, 2), (2, 1)]] [[0], []] 0 8 y6a rfl rfl rfl rfl (fc (rok rfl) (fc (rok rfl) fn))) (fun g => ⟨⟨(g.cells (j := 41) rfl rfl rfl), (fc (g.cells (j := 0) rfl rfl rfl) fn)⟩, ⟨(g.cells (j := 36) rfl rfl rfl), (fc (g.cells (j := 34) rfl rfl rfl) (fc (g.cells (j := 35) rfl rfl rfl) fn))⟩, hC.mono g.mv, hV.1.mono g.R⟩) (.env (by (try simp only [liE, letsOf, letU, snd, List.append_nil]); rfl) ?_)
      refine .alloc fun b42 => .envL (by simp only [List.nil_append, List.cons_append]; rfl) ?_
      refine .loadSl [slv (some ⟨b15, 0, none⟩) 1 1, slv (some ⟨b19, 0, none⟩) 3 3, slv (some ⟨b22, 0, none⟩) 2 2, slv (some ⟨b26, 0, none⟩) 3 3, slv (some ⟨b29, 0, none⟩) 2 2, slv (some ⟨b33, 0, none⟩) 3 3, slv (some ⟨b36, 0, none⟩) 2 2, slv (some ⟨b40, 0, none⟩) 3 3, slv none 0 0] 6 9 (some ⟨b36, 0, none⟩) 2 2 (by decide) rfl (fun g i x h => ⟨bo, 0, rfl, by rw [vw_mem g hO, Nat.zero_add, List.getElem?_toArray]; exact h⟩) (.env (by (try simp only [liE, letsOf, letU, snd, List.append_nil]); rfl) ?_) rfl rfl
      refine .callE (row_is (p := (some ⟨b42, 0, none⟩)) (pcol := (some ⟨b36, 0, none⟩)) (cp := 1) (ccol := 2) (l := [⟨some ⟨b0, 0, none⟩, 2, [(1, 2), (2, 1)]⟩]) (rs := [⟨some ⟨b34, 0, none⟩, 1, [0]⟩, ⟨some ⟨b35, 0, none⟩, 0, []⟩]) [[(1, 2), (2, 1)]] [[0], []] 7 [] 0 8 y6b rfl rfl rfl rfl rfl (fc (rok rfl) (fc (rok rfl) fn))) (fun g => ⟨⟨(g.cells (j := 42) rfl rfl rfl), (fc (g.cells (j := 0) rfl rfl rfl) fn)⟩, ⟨(g.cells (j := 36) rfl rfl rfl), (fc (g.cells (j := 34) rfl rfl rfl) (fc (g.cells (j := 35) rfl rfl rfl) fn))⟩⟩) ?_
      rintro v mq m13 hle hq ⟨q12, k12, rfl, hR12⟩
      refine ⟨[.p q12, .i (0 : Nat), .i k12, .i 8], uOk_of rfl, (tab_fresh _ _ _ _ _ _).symm, .env (by (try simp only [liE, letsOf, letU, snd, List.append_nil]); rfl) ?_⟩
      clear hR12
      replace hO := hle _ _ hO
      replace hm := hm.trans hle
      clear hle hq
      refine .alloc fun b43 => .envL (by simp only [List.nil_append, List.cons_append]; rfl) ?_
      refine .loadSl [slv (some ⟨b15, 0, none⟩) 1 1, slv (some ⟨b19, 0, none⟩) 3 3, slv (some ⟨b22, 0, none⟩) 2 2, slv (some ⟨b26, 0, none⟩) 3 3, slv (some ⟨b29, 0, none⟩) 2 2, slv (some ⟨b33, 0, none⟩) 3 3, slv (some ⟨b36, 0, none⟩) 2 2, slv (some ⟨b40, 0, none⟩) 3 3, slv none 0 0] 6 9 (some ⟨b36, 0, none⟩) 2 2 (by decide) rfl (fun g i x h => ⟨bo, 0, rfl, by rw [vw_mem g hO, Nat.zero_add, List.getElem?_toArray]; exact h⟩) (.env (by (try simp only [liE, letsOf, letU, snd, List.append_nil]); rfl) ?_) rfl rfl
      refine .callV (check_is (p := (some ⟨b43, 0, none⟩)) (pcol := (some ⟨b36, 0, none⟩)) (cp := 1) (ccol := 2) (l := [⟨some ⟨b0, 0, none⟩, 2, [(1, 2), (2, 1)]⟩]) (rs := [⟨some ⟨b34, 0, none⟩, 1, [0]⟩, ⟨some ⟨b35, 0, none⟩, 0, []⟩]) [[(1, 2), (2, 1)]] [[0], []] 8 y6c rfl rfl rfl rfl (fc (rok rfl) (fc (rok rfl) fn))) (fun g => ⟨⟨(g.cells (j := 43) rfl rfl rfl), (fc (g.cells (j := 0) rfl rfl rfl) fn)⟩, ⟨(g.cells (j := 36) rfl rfl rfl), (fc (g.cells (j := 34) rfl rfl rfl) (fc (g.cells (j := 35) rfl rfl rfl) fn))⟩⟩) (.env (by (try simp only [liE, letsOf, letU, snd, List.append_nil]); rfl) ?_)
      exact .no rfl (.againL rfl fun gd => ⟨z - 1, by omega, 7, rfl, by omega, hm.trans (gd.leB _ _ 41)⟩)
    · skip
      refine .loadSl [slv (some ⟨b15, 0, none⟩) 1 1, slv (some ⟨b19, 0, none⟩) 3 3, slv (some ⟨b22, 0, none⟩) 2 2, slv (some ⟨b26, 0, none⟩) 3 3, slv (some ⟨b29, 0, none⟩) 2 2, slv (some ⟨b33, 0, none⟩) 3 3, slv (some ⟨b36, 0, none⟩) 2 2, slv (some ⟨b40, 0, none⟩) 3 3, slv none 0 0] 7 9 (some ⟨b40, 0, none⟩) 3 3 (by decide) rfl (fun g i x h => ⟨bo, 0, rfl, by rw [vw_mem g hO, Nat.zero_add, List.getElem?_toArray]; exact h⟩) (.env (by (try simp only [liE, letsOf, letU, snd, List.append_nil]); rfl) ?_) rfl rfl
      try clear hC
      refine .callE c_costs18 (fun _ => trivial) ?_
      rintro v mq m12 hle hq ⟨d12, rfl, hC⟩
      refine ⟨[.p (some ⟨d12, 0, none⟩), .i (2 : Nat), .i (2 : Nat), .i 1], uOk_of rfl, rfl, .env (by (try simp only [liE, letsOf, letU, snd, List.append_nil]); rfl) ?_⟩
      replace hC := hC.mono hq.mv
      replace hO := hle _ _ hO
      replace hm := hm.trans hle
      clear hle hq
      refine .alloc fun b41 => .envL (by simp only [List.nil_append, List.cons_append]; rfl) ?_
      refine .callV (score_is (p := (some ⟨b41, 0, none⟩)) (pcol := (some ⟨b40, 0, none⟩)) (pc := some ⟨d12, 0, none⟩) (cp := 1) (ccol := 3) (cc := 2) (l := [⟨some ⟨b0, 0, none⟩, 2, [(1, 2), (2, 1)]⟩]) (rs := [⟨some ⟨b37, 0, none⟩, 1, [0]⟩, ⟨some ⟨b38, 0, none⟩, 1, [1]⟩, ⟨some ⟨b39, 0, none⟩, 1, [-2]⟩]) (ws := [1, 1]) (gap := 1) [[(1, 2), (2, 1)]] [[0], [1], [-2]] 0 8 y7a rfl rfl rfl rfl (fc (rok rfl) (fc (rok rfl) (fc (rok rfl) fn)))) (fun g => ⟨⟨(g.cells (j := 41) rfl rfl rfl), (fc (g.cells (j := 0) rfl rfl rfl) fn)⟩, ⟨(g.cells (j := 40) rfl rfl rfl), (fc (g.cells (j := 37) rfl rfl rfl) (fc (g.cells (j := 38) rfl rfl rfl) (fc (g.cells (j := 39) rfl rfl rfl) fn)))⟩, hC.mono g.mv, hV.1.mono g.R⟩) (.env (by (try simp only [liE, letsOf, letU, snd, List.append_nil]); rfl) ?_)
      refine .alloc fun b42 => .envL (by simp only [List.nil_append, List.cons_append]; rfl) ?_
      refine .loadSl [slv (some ⟨b15, 0, none⟩) 1 1, slv (some ⟨b19, 0, none⟩) 3 3, slv (some ⟨b22, 0, none⟩) 2 2, slv (some ⟨b26, 0, none⟩) 3 3, slv (some ⟨b29, 0, none⟩) 2 2, slv (some ⟨b33, 0, none⟩) 3 3, slv (some ⟨b36, 0, none⟩) 2 2, slv (some ⟨b40, 0, none⟩) 3 3, slv none 0 0] 7 9 (some ⟨b40, 0, none⟩) 3 3 (by decide) rfl (fun g i x h => ⟨bo, 0, rfl, by rw [vw_mem g hO, Nat.zero_add, List.getElem?_toArray]; exact h⟩) (.env (by (try simp only [liE, letsOf, letU, snd, List.append_nil]); rfl) ?_) rfl rfl
      refine .callE (row_is (p := (some ⟨b42, 0, none⟩)) (pcol := (some ⟨b40, 0, none⟩)) (cp := 1) (ccol := 3) (l := [⟨some ⟨b0, 0, none⟩, 2, [(1, 2), (2, 1)]⟩]) (rs := [⟨some ⟨b37, 0, none⟩, 1, [0]⟩, ⟨some ⟨b38, 0, none⟩, 1, [1]⟩, ⟨some ⟨b39, 0, none⟩, 1, [-2]⟩]) [[(1, 2), (2, 1)]] [[0], [1], [-2]] 7 [] 0 8 y7b rfl rfl rfl rfl rfl (fc (rok rfl) (fc (rok rfl) (fc (rok rfl) fn)))) (fun g => ⟨⟨(g.cells (j := 42) rfl rfl rfl), (fc (g.cells (j := 0) rfl rfl rfl) fn)⟩, ⟨(g.cells (j := 40) rfl rfl rfl), (fc (g.cells (j := 37) rfl rfl rfl) (fc (g.cells (j := 38) rfl rfl rfl) (fc (g.cells (j := 39) rfl rfl rfl) fn)))⟩⟩) ?_
      rintro v mq m13 hle hq ⟨q13, k13, rfl, hR13⟩
      refine ⟨[.p q13, .i (0 : Nat), .i k13, .i 8], uOk_of rfl, (tab_fresh _ _ _ _ _ _).symm, .env (by (try simp only [liE, letsOf, letU, snd, List.append_nil]); rfl) ?_⟩
      clear hR13
      replace hO := hle _ _ hO
      replace hm := hm.trans hle
      clear hle hq
      refine .alloc fun b43 => .envL (by simp only [List.nil_append, List.cons_append]; rfl) ?_
      refine .loadSl [slv (some ⟨b15, 0, none⟩) 1 1, slv (some ⟨b19, 0, none⟩) 3 3, slv (some ⟨b22, 0, none⟩) 2 2, slv (some ⟨b26, 0, none⟩) 3 3, slv (some ⟨b29, 0, none⟩) 2 2, slv (some ⟨b33, 0, none⟩) 3 3, slv (some ⟨b36, 0, none⟩) 2 2, slv (some ⟨b40, 0, none⟩) 3 3, slv none 0 0] 7 9 (some ⟨b40, 0, none⟩) 3 3 (by decide) rfl (fun g i x h => ⟨bo, 0, rfl, by rw [vw_mem g hO, Nat.zero_add, List.getElem?_toArray]; exact h⟩) (.env (by (try simp only [liE, letsOf, letU, snd, List.append_nil]); rfl) ?_) rfl rfl
      refine .callV (check_is (p := (some ⟨b43, 0, none⟩)) (pcol := (some ⟨b40, 0, none⟩)) (cp := 1) (ccol := 3) (l := [⟨some ⟨b0, 0, none⟩, 2, [(1, 2), (2, 1)]⟩]) (rs := [⟨some ⟨b37, 0, none⟩, 1, [0]⟩, ⟨some ⟨b38, 0, none⟩, 1, [1]⟩, ⟨some ⟨b39, 0, none⟩, 1, [-2]⟩]) [[(1, 2), (2, 1)]] [[0], [1], [-2]] 8 y7c rfl rfl rfl rfl (fc (rok rfl) (fc (rok rfl) (fc (rok rfl) fn)))) (fun g => ⟨⟨(g.cells (j := 43) rfl rfl rfl), (fc (g.cells (j := 0) rfl rfl rfl) fn)⟩, ⟨(g.cells (j := 40) rfl rfl rfl), (fc (g.cells (j := 37) rfl rfl rfl) (fc (g.cells (j := 38) rfl rfl rfl) (fc (g.cells (j := 39) rfl rfl rfl) fn)))⟩⟩) (.env (by (try simp only [liE, letsOf, letU, snd, List.append_nil]); rfl) ?_)
      exact .no rfl (.againL rfl fun gd => ⟨z - 1, by omega, 8, rfl, by omega, hm.trans (gd.leB _ _ 41)⟩)
    · skip
      refine .loadSl [slv (some ⟨b15, 0, none⟩) 1 1, slv (some ⟨b19, 0, none⟩) 3 3, slv (some ⟨b22, 0, none⟩) 2 2, slv (some ⟨b26, 0, none⟩) 3 3, slv (some ⟨b29, 0, none⟩) 2 2, slv (some ⟨b33, 0, none⟩) 3 3, slv (some ⟨b36, 0, none⟩) 2 2, slv (some ⟨b40, 0, none⟩) 3 3, slv none 0 0] 8 9 none 0 0 (by decide) rfl (fun g i x h => ⟨bo, 0, rfl, by rw [vw_mem g hO, Nat.zero_add, List.getElem?_toArray]; exact h⟩) (.env (by (try simp only [liE, letsOf, letU, snd, List.append_nil]); rfl) ?_) rfl rfl
      try clear hC
      refine .callE c_costs18 (fun _ => trivial) ?_
      rintro v mq m12 hle hq ⟨d13, rfl, hC⟩
      refine ⟨[.p (some ⟨d13, 0, none⟩), .i (2 : Nat), .i (2 : Nat), .i 1], uOk_of rfl, rfl, .env (by (try simp only [liE, letsOf, letU, snd, List.append_nil]); rfl) ?_⟩
      replace hC := hC.mono hq.mv
      replace hO := hle _ _ hO
      replace hm := hm.trans hle
      clear hle hq
      refine .alloc fun b41 => .envL (by simp only [List.nil_append, List.cons_append]; rfl) ?_
      refine .callV (score_is (p := (some ⟨b41, 0, none⟩)) (pcol := none) (pc := some ⟨d13, 0, none⟩) (cp := 1) (ccol := 0) (cc := 2) (l := [⟨some ⟨b0, 0, none⟩, 2, [(1, 2), (2, 1)]⟩]) (rs := []) (ws := [1, 1]) (gap := 1) [[(1, 2), (2, 1)]] [] 0 8 y8a rfl rfl rfl rfl fn) (fun g => ⟨⟨(g.cells (j := 41) rfl rfl rfl), (fc (g.cells (j := 0) rfl rfl rfl) fn)⟩, ⟨cells0, fn⟩, hC.mono g.mv, hV.1.mono g.R⟩) (.env (by (try simp only [liE, letsOf, letU, snd, List.append_nil]); rfl) ?_)
      refine .alloc fun b42 => .envL (by simp only [List.nil_append, List.cons_append]; rfl) ?_
      refine .loadSl [slv (some ⟨b15, 0, none⟩) 1 1, slv (some ⟨b19, 0, none⟩) 3 3, slv (some ⟨b22, 0, none⟩) 2 2, slv (some ⟨b26, 0, none⟩) 3 3, slv (some ⟨b29, 0, none⟩) 2 2, slv (some ⟨b33, 0, none⟩) 3 3, slv (some ⟨b36, 0, none⟩) 2 2, slv (some ⟨b40, 0, none⟩) 3 3, slv none 0 0] 8 9 none 0 0 (by decide) rfl (fun g i x h => ⟨bo, 0, rfl, by rw [vw_mem g hO, Nat.zero_add, List.getElem?_toArray]; exact h⟩) (.env (by (try simp only [liE, letsOf, letU, snd, List.append_nil]); rfl) ?_) rfl rfl
      refine .callE (row_is (p := (some ⟨b42, 0, none⟩)) (pcol := none) (cp := 1) (ccol := 0) (l := [⟨some ⟨b0, 0, none⟩, 2, [(1, 2), (2, 1)]⟩]) (rs := []) [[(1, 2), (2, 1)]] [] 7 [] 0 8 y8b rfl rfl rfl rfl rfl fn) (fun g => ⟨⟨(g.cells (j := 42) rfl rfl rfl), (fc (g.cells (j := 0) rfl rfl rfl) fn)⟩, ⟨cells0, fn⟩⟩) ?_
      rintro v mq m13 hle hq ⟨q14, k14, rfl, hR14⟩
      refine ⟨[.p q14, .i (0 : Nat), .i k14, .i 8], uOk_of rfl, (tab_fresh _ _ _ _ _ _).symm, .env (by (try simp only [liE, letsOf, letU, snd, List.append_nil]); rfl) ?_⟩
      clear hR14
      replace hO := hle _ _ hO
      replace hm := hm.trans hle
      clear hle hq
      refine .alloc fun b43 => .envL (by simp only [List.nil_append, List.cons_append]; rfl) ?_
      refine .loadSl [slv (some ⟨b15, 0, none⟩) 1 1, slv (some ⟨b19, 0, none⟩) 3 3, slv (some ⟨b22, 0, none⟩) 2 2, slv (some ⟨b26, 0, none⟩) 3 3, slv (some ⟨b29, 0, none⟩) 2 2, slv (some ⟨b33, 0, none⟩) 3 3, slv (some ⟨b36, 0, none⟩) 2 2, slv (some ⟨b40, 0, none⟩) 3 3, slv none 0 0] 8 9 none 0 0 (by decide) rfl (fun g i x h => ⟨bo, 0, rfl, by rw [vw_mem g hO, Nat.zero_add, List.getElem?_toArray]; exact h⟩) (.env (by (try simp only [liE, letsOf, letU, snd, List.append_nil]); rfl) ?_) rfl rfl
      refine .callV (check_is (p := (some ⟨b43, 0, none⟩)) (pcol := none) (cp := 1) (ccol := 0) (l := [⟨some ⟨b0, 0, none⟩, 2, [(1, 2), (2, 1)]⟩]) (rs := []) [[(1, 2), (2, 1)]] [] 8 y8c rfl rfl rfl rfl fn) (fun g => ⟨⟨(g.cells (j := 43) rfl rfl rfl), (fc (g.cells (j := 0) rfl rfl rfl) fn)⟩, ⟨cells0, fn⟩⟩) (.env (by (try simp only [liE, letsOf, letU, snd, List.append_nil]); rfl) ?_)
      exact .no rfl (.againL rfl fun gd => ⟨z - 1, by omega, 9, rfl, by omega, hm.trans (gd.leB _ _ 41)⟩)
  · clear hO hm
    refine .alloc fun b41 => .envL (by simp only [List.nil_append, List.cons_append]; rfl) ?_
    refine .callV (score_is (p := (some ⟨b4, 0, none⟩)) (pcol := none) (pc := none) (cp := 9) (ccol := 0) (cc := 0) (l := (List.replicate 9 wn)) (rs := []) (ws := []) (gap := (-1)) [[], [], [], [], [], [], [], [], []] [] 0 2 z1 rfl rfl rfl rfl fn) (fun g => ⟨⟨(g.cells (j := 4) rfl rfl rfl), nil_at 9⟩, ⟨cells0, fn⟩, cells0, hV.1.mono g.R⟩) (.env (by (try simp only [liE, letsOf, letU, snd, List.append_nil]); rfl) ?_)
    refine .alloc fun b42 => .envL (by simp only [List.nil_append, List.cons_append]; rfl) ?_
    refine .appendOwn (b0 := b4) (n := 9) (xs := (List.replicate 9 wn).map WD.v) (qx := some ⟨b42, 0, none⟩) (kx := 1) (capx := 1) (news := [slv (some ⟨b2, 0, none⟩) 1 1]) elW rfl (fun g => (g.cells (j := 4) rfl rfl rfl)) (fun g => (g.cells (j := 42) rfl rfl rfl)) rfl (by simp [slv, Value.oneCell']) (fun h => by cases h) (by decide) (by decide) (fun qa ca ma hr _ _ => .env (by (try simp only [liE, letsOf, letU, snd, List.append_nil]); rfl) ?_)
    have hr := (hr (by decide)).1
    try clear hC
    refine .callE c_costs18 (fun _ => trivial) ?_
    rintro v mq m12 hle hq ⟨d14, rfl, hC⟩
    refine ⟨[.p (some ⟨d14, 0, none⟩), .i (2 : Nat), .i (2 : Nat), .i 1], uOk_of rfl, rfl, .env (by (try simp only [liE, letsOf, letU, snd, List.append_nil]); rfl) ?_⟩
    replace hC := hC.mono hq.mv
    replace hr := Row.le hr hle
    clear hle hq
    refine .callV (score_is (p := qa) (pcol := none) (pc := some ⟨d14, 0, none⟩) (cp := ca) (ccol := 0) (cc := 2) (l := [wn, wn, wn, wn, wn, wn, wn, wn, wn, ⟨some ⟨b2, 0, none⟩, 1, [(1, 1)]⟩]) (rs := []) (ws := [1, 1]) (gap := 1) [[], [], [], [], [], [], [], [], [], [(1, 1)]] [] 0 12 z2 rfl rfl rfl rfl fn) (fun g => ⟨⟨hr.reads g, (fc cells0 (fc cells0 (fc cells0 (fc cells0 (fc cells0 (fc cells0 (fc cells0 (fc cells0 (fc cells0 (fc (g.cells (j := 2) rfl rfl rfl) fn))))))))))⟩, ⟨cells0, fn⟩, hC.mono g.mv, hV.1.mono g.R⟩) (.env (by (try simp only [liE, letsOf, letU, snd, List.append_nil]); rfl) ?_)
    clear hr
    refine .alloc fun b43 => .envL (by simp only [List.nil_append, List.cons_append]; rfl) ?_
    try clear hC
    refine .callE c_costs18 (fun _ => trivial) ?_
    rintro v mq m13 hle hq ⟨d15, rfl, hC⟩
    refine ⟨[.p (some ⟨d15, 0, none⟩), .i (2 : Nat), .i (2 : Nat), .i 1], uOk_of rfl, rfl, .env (by (try simp only [liE, letsOf, letU, snd, List.append_nil]); rfl) ?_⟩
    replace hC := hC.mono hq.mv
    clear hle hq
    refine .callV (score_is (p := (some ⟨b43, 0, none⟩)) (pcol := none) (pc := some ⟨d15, 0, none⟩) (cp := 2) (ccol := 0) (cc := 2) (l := [⟨some ⟨b0, 0, none⟩, 2, [(1, 2), (2, 1)]⟩, ⟨some ⟨b2, 0, none⟩, 1, [(1, 1)]⟩]) (rs := []) (ws := [1, 1]) (gap := 1) [[(1, 2), (2, 1)], [(1, 1)]] [] 0 14 z3 rfl rfl rfl rfl fn) (fun g => ⟨⟨(g.cells (j := 43) rfl rfl rfl), (fc (g.cells (j := 0) rfl rfl rfl) (fc (g.cells (j := 2) rfl rfl rfl) fn))⟩, ⟨cells0, fn⟩, hC.mono g.mv, hV.1.mono g.R⟩) (.env (by (try simp only [liE, letsOf, letU, snd, List.append_nil]); rfl) ?_)
    try clear hC
    refine .callE c_costs18 (fun _ => trivial) ?_
    rintro v mq m14 hle hq ⟨d16, rfl, hC⟩
    refine ⟨[.p (some ⟨d16, 0, none⟩), .i (2 : Nat), .i (2 : Nat), .i 1], uOk_of rfl, rfl, .env (by (try simp only [liE, letsOf, letU, snd, List.append_nil]); rfl) ?_⟩
    replace hC := hC.mono hq.mv
    clear hle hq
    refine .callE (add_is (p := (some ⟨b4, 0, none⟩)) (pcol := none) (pc := some ⟨d16, 0, none⟩) (cp := 9) (ccol := 0) (cc := 2) (l := (List.replicate 8 wn)) (rs := []) (ws := [1, 1]) (gap := 1) (x := ⟨some ⟨b2, 0, none⟩, 1, [(1, 1)]⟩) [[], [], [], [], [], [], [], []] [] [(1, 1)] _ 0 12 z4 rfl rfl rfl rfl rfl rfl rfl nofun fn) (fun g => ⟨⟨Cells.take (xs := (List.replicate 8 wn).map WD.v) (ys := (List.replicate 1 wn).map WD.v) (g.cells (j := 4) rfl rfl rfl), nil_at 8⟩, ⟨cells0, fn⟩, (g.cells (j := 2) rfl rfl rfl), hC.mono g.mv, hV.mono g.R⟩) ?_
    rintro v mq m15 hle hq ⟨q15, k15, t15, rfl, ht15, hT15⟩
    refine ⟨[.p q15, .i (0 : Nat), .i k15, .i 12], uOk_of rfl, (tab_fresh _ _ _ _ _ _).symm, .env (by (try simp only [liE, letsOf, letU, snd, List.append_nil]); rfl) ?_⟩
    clear ht15 hT15
    clear hle hq
    try clear hC
    refine .callE c_costs18 (fun _ => trivial) ?_
    rintro v mq m16 hle hq ⟨d17, rfl, hC⟩
    refine ⟨[.p (some ⟨d17, 0, none⟩), .i (2 : Nat), .i (2 : Nat), .i 1], uOk_of rfl, rfl, .env (by (try simp only [liE, letsOf, letU, snd, List.append_nil]); rfl) ?_⟩
    replace hC := hC.mono hq.mv
    clear hle hq
    refine .alloc fun b44 => .alloc fun b45 => .envL (by simp only [List.nil_append, List.cons_append]; rfl) ?_
    refine .callE (add_is (p := (some ⟨b4, 0, none⟩)) (pcol := (some ⟨b45, 0, none⟩)) (pc := some ⟨d17, 0, none⟩) (cp := 9) (ccol := 1) (cc := 2) (l := (List.replicate 7 wn)) (rs := [⟨some ⟨b44, 0, none⟩, 1, [0]⟩]) (ws := [1, 1]) (gap := 1) (x := ⟨some ⟨b2, 0, none⟩, 1, [(1, 1)]⟩) [[], [], [], [], [], [], []] [[0]] [(1, 1)] _ 0 14 z5 rfl rfl rfl rfl rfl rfl rfl nofun (fc (rok rfl) fn)) (fun g => ⟨⟨Cells.take (xs := (List.replicate 7 wn).map WD.v) (ys := (List.replicate 2 wn).map WD.v) (g.cells (j := 4) rfl rfl rfl), nil_at 7⟩, ⟨(g.cells (j := 45) rfl rfl rfl), (fc (g.cells (j := 44) rfl rfl rfl) fn)⟩, (g.cells (j := 2) rfl rfl rfl), hC.mono g.mv, hV.mono g.R⟩) ?_
    rintro v mq m17 hle hq ⟨q16, k16, t16, rfl, ht16, hT16⟩
    refine ⟨[.p q16, .i (0 : Nat), .i k16, .i 14], uOk_of rfl, (tab_fresh _ _ _ _ _ _).symm, .env (by (try simp only [liE, letsOf, letU, snd, List.append_nil]); rfl) ?_⟩
    clear ht16 hT16
    clear hle hq
    try clear hC
    refine .callE c_costs18 (fun _ => trivial) ?_
    rintro v mq m18 hle hq ⟨d18, rfl, hC⟩
    refine ⟨[.p (some ⟨d18, 0, none⟩), .i (2 : Nat), .i (2 : Nat), .i 1], uOk_of rfl, rfl, .env (by (try simp only [liE, letsOf, letU, snd, List.append_nil]); rfl) ?_⟩
    replace hC := hC.mono hq.mv
    clear hle hq
    refine .callE (exact_is (p := (some ⟨b4, 0, none⟩)) (pc := some ⟨d18, 0, none⟩) (cp := 9) (cc := 2) (l := (List.replicate 4 wn)) (ws := [1, 1]) (gap := 1) [[], [], [], []] _ 0 0 12 z6 rfl rfl rfl rfl) (fun g => ⟨⟨Cells.take (xs := (List.replicate 4 wn).map WD.v) (ys := (List.replicate 5 wn).map WD.v) (g.cells (j := 4) rfl rfl rfl), nil_at 4⟩, hC.mono g.mv, hV.1.mono g.R⟩) ?_
    rintro v mq m19 hle hq ⟨q17, k17, t17, rfl, ht17, hT17⟩
    refine ⟨[.p q17, .i (0 : Nat), .i k17, .i 0, .i 12], uOk_of rfl, (ext_fresh _ _ _ _ _ _ _).symm, .env (by (try simp only [liE, letsOf, letU, snd, List.append_nil]); rfl) ?_⟩
    clear ht17 hT17
    clear hle hq
    refine .alloc fun b46 => .envL (by simp only [List.nil_append, List.cons_append]; rfl) ?_
    try clear hC
    refine .callE c_costs18 (fun _ => trivial) ?_
    rintro v mq m20 hle hq ⟨d19, rfl, hC⟩
    refine ⟨[.p (some ⟨d19, 0, none⟩), .i (2 : Nat), .i (2 : Nat), .i 1], uOk_of rfl, rfl, .env (by (try simp only [liE, letsOf, letU, snd, List.append_nil]); rfl) ?_⟩
    replace hC := hC.mono hq.mv
    clear hle hq
    refine .callE (exact_is (p := (some ⟨b46, 0, none⟩)) (pc := some ⟨d19, 0, none⟩) (cp := 2) (cc := 2) (l := [⟨some ⟨b41, 0, none⟩, 7, [(0, 0), (0, 0), (0, 0), (0, 0), (0, 0), (0, 0), (0, 0)]⟩, ⟨some ⟨b2, 0, none⟩, 1, [(1, 1)]⟩]) (ws := [1, 1]) (gap := 1) [[(0, 0), (0, 0), (0, 0), (0, 0), (0, 0), (0, 0), (0, 0)], [(1, 1)]] _ 0 0 14 z7 rfl rfl rfl rfl) (fun g => ⟨⟨(g.cells (j := 46) rfl rfl rfl), (fc (g.cells (j := 41) rfl rfl rfl) (fc (g.cells (j := 2) rfl rfl rfl) fn))⟩, hC.mono g.mv, hV.1.mono g.R⟩) ?_
    rintro v mq m21 hle hq ⟨q18, k18, t18, rfl, ht18, hT18⟩
    refine ⟨[.p q18, .i (0 : Nat), .i k18, .i 0, .i 14], uOk_of rfl, (ext_fresh _ _ _ _ _ _ _).symm, .env (by (try simp only [liE, letsOf, letU, snd, List.append_nil]); rfl) ?_⟩
    clear ht18 hT18
    clear hle hq
    refine .alloc fun b47 => .envL (by simp only [List.nil_append, List.cons_append]; rfl) ?_
    try clear hC
    refine .callE c_costs18 (fun _ => trivial) ?_
    rintro v mq m22 hle hq ⟨d20, rfl, hC⟩
    refine ⟨[.p (some ⟨d20, 0, none⟩), .i (2 : Nat), .i (2 : Nat), .i 1], uOk_of rfl, rfl, .env (by (try simp only [liE, letsOf, letU, snd, List.append_nil]); rfl) ?_⟩
    replace hC := hC.mono hq.mv
    clear hle hq
    refine .callE (exact_is (p := (some ⟨b47, 0, none⟩)) (pc := some ⟨d20, 0, none⟩) (cp := 2) (cc := 2) (l := [⟨some ⟨b1, 0, none⟩, 1, [(2, 1)]⟩, ⟨some ⟨b41, 0, none⟩, 7, [(0, 0), (0, 0), (0, 0), (0, 0), (0, 0), (0, 0), (0, 0)]⟩]) (ws := [1, 1]) (gap := 1) [[(2, 1)], [(0, 0), (0, 0), (0, 0), (0, 0), (0, 0), (0, 0), (0, 0)]] _ 0 0 11 z8 rfl rfl rfl rfl) (fun g => ⟨⟨(g.cells (j := 47) rfl rfl rfl), (fc (g.cells (j := 1) rfl rfl rfl) (fc (g.cells (j := 41) rfl rfl rfl) fn))⟩, hC.mono g.mv, hV.1.mono g.R⟩) ?_
    rintro v mq m23 hle hq ⟨q19, k19, t19, rfl, ht19, hT19⟩
    refine ⟨[.p q19, .i (0 : Nat), .i k19, .i 0, .i 11], uOk_of rfl, (ext_fresh _ _ _ _ _ _ _).symm, .env (by (try simp only [liE, letsOf, letU, snd, List.append_nil]); rfl) ?_⟩
    clear ht19 hT19
    clear hle hq
    refine .alloc fun b48 => .alloc fun b49 => .alloc fun b50 => .alloc fun b51 => .envL (by simp only [List.nil_append, List.cons_append]; rfl) ?_
    refine .callE (without_is (p := (some ⟨b48, 0, none⟩)) (pcol := (some ⟨b51, 0, none⟩)) (cp := 1) (ccol := 2) (l := [⟨some ⟨b0, 0, none⟩, 2, [(1, 2), (2, 1)]⟩]) (rs := [⟨some ⟨b49, 0, none⟩, 1, [0]⟩, ⟨some ⟨b50, 0, none⟩, 1, [1]⟩]) [[(1, 2), (2, 1)]] [[0], [1]] 1 _ 0 3 z9 rfl rfl rfl rfl rfl (fc (rok rfl) (fc (rok rfl) fn))) (fun g => ⟨⟨(g.cells (j := 48) rfl rfl rfl), (fc (g.cells (j := 0) rfl rfl rfl) fn)⟩, ⟨(g.cells (j := 51) rfl rfl rfl), (fc (g.cells (j := 49) rfl rfl rfl) (fc (g.cells (j := 50) rfl rfl rfl) fn))⟩⟩) ?_
    rintro v mq m24 hle hq ⟨q20, k20, t20, rfl, ht20, hT20⟩
    refine ⟨[.p q20, .i (0 : Nat), .i k20, .i 3], uOk_of rfl, (tab_fresh _ _ _ _ _ _).symm, .env (by (try simp only [liE, letsOf, letU, snd, List.append_nil]); rfl) ?_⟩
    clear ht20 hT20
    clear hle hq
    refine .callE (without_is (p := none) (pcol := none) (cp := 0) (ccol := 0) (l := []) (rs := []) [] [] 0 _ 0 3 z10 rfl rfl rfl rfl rfl fn) (fun g => ⟨⟨cells0, fn⟩, ⟨cells0, fn⟩⟩) ?_
    rintro v mq m25 hle hq ⟨q21, k21, t21, rfl, ht21, hT21⟩
    refine ⟨[.p q21, .i (0 : Nat), .i k21, .i 3], uOk_of rfl, (tab_fresh _ _ _ _ _ _).symm, .env (by (try simp only [liE, letsOf, letU, snd, List.append_nil]); rfl) ?_⟩
    clear ht21 hT21
    clear hle hq
    try clear hC
    refine .callE c_costs18 (fun _ => trivial) ?_
    rintro v mq m26 hle hq ⟨d21, rfl, hC⟩
    refine ⟨[.p (some ⟨d21, 0, none⟩), .i (2 : Nat), .i (2 : Nat), .i 1], uOk_of rfl, rfl, .env (by (try simp only [liE, letsOf, letU, snd, List.append_nil]); rfl) ?_⟩
    replace hC := hC.mono hq.mv
    clear hle hq
    refine .callE (prog_is (p := (some ⟨b4, 0, none⟩)) (pc := some ⟨d21, 0, none⟩) (cp := 9) (cc := 2) (l := (List.replicate 9 wn)) (ws := [1, 1]) (gap := 1) [[], [], [], [], [], [], [], [], []] _ 0 12 z11 rfl rfl rfl rfl) (fun g => ⟨⟨(g.cells (j := 4) rfl rfl rfl), nil_at 9⟩, hC.mono g.mv, hV.1.mono g.R, hV.2.mono g.R⟩) ?_
    rintro v mq m27 hle hq ⟨q22, k22, t22, rfl, ht22, hT22⟩
    refine ⟨[.p q22, .i (0 : Nat), .i k22, .i 12], uOk_of rfl, (tab_fresh _ _ _ _ _ _).symm, .env (by (try simp only [liE, letsOf, letU, snd, List.append_nil]); rfl) ?_⟩
    clear ht22 hT22
    clear hle hq
    try clear hC
    refine .callE c_costs18 (fun _ => trivial) ?_
    rintro v mq m28 hle hq ⟨d22, rfl, hC⟩
    refine ⟨[.p (some ⟨d22, 0, none⟩), .i (2 : Nat), .i (2 : Nat), .i 1], uOk_of rfl, rfl, .env (by (try simp only [liE, letsOf, letU, snd, List.append_nil]); rfl) ?_⟩
    replace hC := hC.mono hq.mv
    clear hle hq
    refine .alloc fun b52 => .alloc fun b53 => .envL (by simp only [List.nil_append, List.cons_append]; rfl) ?_
    refine .callE (refine_is (p := (some ⟨b4, 0, none⟩)) (pcol := (some ⟨b53, 0, none⟩)) (pc := some ⟨d22, 0, none⟩) (cp := 9) (ccol := 1) (cc := 2) (l := (List.replicate 8 wn)) (rs := [⟨some ⟨b52, 0, none⟩, 8, [0, 0, 0, 0, 0, 0, 0, 0]⟩]) (ws := [1, 1]) (gap := 1) [[], [], [], [], [], [], [], []] [[0, 0, 0, 0, 0, 0, 0, 0]] 0 8 z12 (by decide) rfl rfl rfl rfl (fc (rok rfl) fn)) (fun g => ⟨⟨Cells.take (xs := (List.replicate 8 wn).map WD.v) (ys := (List.replicate 1 wn).map WD.v) (g.cells (j := 4) rfl rfl rfl), nil_at 8⟩, ⟨(g.cells (j := 53) rfl rfl rfl), (fc (g.cells (j := 52) rfl rfl rfl) fn)⟩, hC.mono g.mv, hV.mono g.R⟩) ?_
    rintro v mq m29 hle hq ⟨qz, kz, rfl⟩
    refine ⟨[.p qz, .i (0 : Nat), .i kz, .i 8], uOk_of rfl, (tab_fresh _ _ _ _ _ _).symm, .env (by (try simp only [liE, letsOf, letU, snd, List.append_nil]); rfl) ?_⟩
    refine .join (fun us m => us = [.b true]) (.yes rfl (.callV c_works (fun g => hV.mono g.R) (.env (by (try simp only [liE, letsOf, letU, snd, List.append_nil]); rfl) (.againL rfl fun gd => rfl)))) ?_
    rintro _ _ _ rfl
    exact .env (by (try simp only [liE, letsOf, letU, snd, List.append_nil]); rfl) (.ret rfl rfl)
end Go.Proofs.YtialbhieaipcgaaDoor
