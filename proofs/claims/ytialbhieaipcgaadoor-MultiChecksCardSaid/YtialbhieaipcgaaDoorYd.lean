/- Chapter 18: the reference's rows; the law of checks. -/
import Derived.Test.YtialbhieaipcgaaDoorYc
import Derived.Test.YtialbhieaipcgaaDoorTcChecks
set_option linter.unusedSimpArgs false
set_option linter.unusedVariables false
namespace Go.Sy
open Go Go.RowKit
theorem c3_fresh (ρ : Env) (L : List Nat) (a b d : Int) : SV.dens L (ρ ++ [.i a, .i b, .i d]) (Sh.freshs [.int .i64, .int .u32, .int .u32] ρ.length).1 = [.int .i64 a, .int .u32 b, .int .u32 d] := by
  have e0 := getElem_env ρ [.i a, .i b, .i d] 0
  have e1 := getElem_env ρ [.i a, .i b, .i d] 1
  have e2 := getElem_env ρ [.i a, .i b, .i d] 2
  simp only [Sh.fresh, Sh.freshs, SV.den, SV.dens, IT.eval, Env.int, Nat.add_assoc] at e0 e1 e2 ⊢
  rw [Nat.add_zero] at e0
  rw [e0, e1, e2]
  rfl
theorem DenM.loadCE {P : Program} {c : Cx} {L : List Nat} {ρ : Env} {blks : List Blk} {m : Mem} {R : Value → HW → Prop} {Dn : Nat → List U → HW → Prop} {A : List (List U → HW → Prop)} {i : Nat} {I len : IT} {k : Tree} (l : List CE) (j : Nat) (hj : j < l.length) (hw : Good c L m → Cells (vw c L ρ blks m) (ρ.ptr i) (ccells l)) (hk : DenM P R Dn k L (ρ ++ [.i l[j].1, .i (l[j].2.1 : Int), .i (l[j].2.2 : Int)]) c m A) (hI : I.eval ρ = (j : Int) := by rfl) (hn : len.eval ρ = (l.length : Int) := by rfl) :
    DenM P R Dn (.chk (.pick (.cmp .geq I (.lit 0)) (.pick (.cmp .lss I len) (.some i) (.lit false)) (.lit false)) (.load i (.off I 3 (.lit 0)) [(.int .i64), (.int .u32), (.int .u32)] blks k)) L ρ c m A := by
  refine .elem [.i l[j].1, .i (l[j].2.1 : Int), .i (l[j].2.2 : Int)] (ccells l) j l.length hI hn hj rfl hw (by rw [ccells_len]; omega) (fun q v hv => ?_) hk
  rw [c3_fresh] at hv
  have hq : q < 3 := by
    rcases Nat.lt_or_ge q 3 with h | h
    · exact h
    · rw [List.getElem?_eq_none (by simpa using h)] at hv; cases hv
  rw [ccells_at l hj q hq]
  exact hv
theorem withoutS_mem {cols : List (List Int)} {k : Nat} {x : List Int} (h : x ∈ withoutS cols k) : ∃ c ∈ cols, x = c.eraseIdx k := by
  unfold withoutS at h
  obtain ⟨c, hc, rfl⟩ := List.mem_map.1 (List.mem_filter.1 h).1
  exact ⟨c, hc, rfl⟩
theorem withoutE_small {W : List (List Snd)} {cols : List (List Int)} (k : Int) (h1 : cols.length < 2 ^ 40) (h2 : ∀ c ∈ cols, c.length < 2 ^ 40) : (withoutE W cols k).1.length < 2 ^ 40 ∧ ∀ x ∈ (withoutE W cols k).1, x.length < 2 ^ 40 := by
  unfold withoutE
  split
  · exact ⟨by show (0 : Nat) < _; decide, fun x hx => by cases hx⟩
  · split
    · exact ⟨by show (0 : Nat) < _; decide, fun x hx => by cases hx⟩
    · refine ⟨Nat.lt_of_le_of_lt (withoutS_len _ _) h1, fun x hx => ?_⟩
      obtain ⟨c, hc, rfl⟩ := withoutS_mem hx
      have := h2 c hc
      rw [List.length_eraseIdx]; split <;> omega
end Go.Sy
namespace Go.Proofs.YtialbhieaipcgaaDoor
open Go Go.Sy Go.RowKit
theorem crow_at (ts : List CR) (j : Nat) (h : j < ts.length) : (ts.map CR.v)[j]? = some (slv ts[j].p ts[j].l.length ts[j].cap) := by rw [List.getElem?_map, List.getElem?_eq_getElem h]; rfl
set_option maxHeartbeats 1000000 in
theorem c_refRow (p pc : Option Addr) (cp cc : Nat) (l : List WD) (rs : List IR) (k : Int) (hl : l.length < 2 ^ 62) (hr : rs.length ≤ 1048576) (hok : ∀ x ∈ l, Wok x.w) (hw : ∀ x ∈ l, x.w.length < 2 ^ 62) (hrl : ∀ r ∈ rs, r.l.length < 2 ^ 62) :
    FnM Tryd.prog n_ref18_Row [slv p l.length cp, slv pc rs.length cc, .int .i64 k] (fun R => WordsAt R p l ∧ RowsAt R pc rs) fun v mq _ => ∃ q cq, v = .tuple #[slv q (rowCA (l.map (·.w)) (rs.map (·.l)) k).1.length cq, .int .i64 (rowCA (l.map (·.w)) (rs.map (·.l)) k).2] ∧ Row mq 67 3 q cq (rowCA (l.map (·.w)) (rs.map (·.l)) k).1.length (ccells (rowCA (l.map (·.w)) (rs.map (·.l)) k).1) := by
  have hclen : (rs.map (·.l)).length = rs.length := List.length_map _
  have hwlen : (l.map (·.w)).length = l.length := List.length_map _
  have hA : rowCA (l.map (·.w)) (rs.map (·.l)) k = if checkA (l.map (·.w)) (rs.map (·.l)) ≠ 0 then ([], checkA (l.map (·.w)) (rs.map (·.l))) else if k < 0 ∨ (l.length : Int) ≤ k then ([], 3) else (rowC (l.map (·.w)) (rs.map (·.l)) k.toNat, 0) := by unfold rowCA; rw [hwlen]
  have kC := c_refCells p pc cp cc l rs hl hr hok hw hrl
  have hs2 : (cellsA (l.map (·.w)) (rs.map (·.l))).2 = checkA (l.map (·.w)) (rs.map (·.l)) := by
    unfold cellsA; split
    · rfl
    · rename_i h; exact (Decidable.not_not.1 h).symm
  have hs1 : checkA (l.map (·.w)) (rs.map (·.l)) = 0 → (cellsA (l.map (·.w)) (rs.map (·.l))).1 = (rs.map (·.l)).map (colC (l.map (·.w))) := fun h => by unfold cellsA; rw [if_neg (by simp [h])]
  rw [hs2] at kC
  refine FnM.of S_ref18_Row mx [.p p, .i l.length, .i cp, .p pc, .i rs.length, .i cc, .i k] rfl rfl fun c hp => .callE kC (fun g => ⟨hp.1.mono g.R, hp.2.mono g.R⟩) ?_
  rintro v mq m1 hle1 hq1 ⟨q1, k1, ts, rfl, hts, hT⟩
  have hT := hT.le hq1
  clear kC hq1
  generalize he : checkA (l.map (·.w)) (rs.map (·.l)) = e at *
  refine ⟨[.p q1, .i (ts.length : Nat), .i k1, .i e], uOk_of rfl, (tab_fresh _ _ _ _ _ _).symm, .env (by (try simp only [liE, letsOf, letU, snd, List.append_nil]); rfl) (.ite (fun h1 => ?_) (fun h1 => .yes (by ((try simp only [evE, liE, letsOf, letU, snd] at h1); (try simp only [cmE] at h1)); ((try simp only [evE, liE, letsOf, letU, snd]); (try simp only [cmE])); exact h1) (.ret rfl ?_)))⟩ <;> ((try simp only [evE, liE, letsOf, letU, snd] at h1); (try simp only [cmE] at h1))
  · subst h1
    rw [hs1 rfl] at hts
    have htl := congrArg List.length hts
    rw [List.length_map, List.length_map, hclen] at htl
    rw [if_neg (by simp)] at hA
    refine .ite (fun h2 => .ret rfl ?_) (fun h2 => .chk (by ((try simp only [evE, liE, letsOf, letU, snd]); (try simp only [cmE])); omega) (.ite (fun h3 => .ret rfl ?_) (fun h3 => .no (by ((try simp only [evE, liE, letsOf, letU, snd]); (try simp only [cmE])) <;> rfl) ?_))) <;> ((try simp only [evE, liE, letsOf, letU, snd] at h2); (try simp only [cmE] at h2))
    · rw [hA, if_pos (.inl h2)]; exact ⟨none, 0, rfl, Row.nil ..⟩
    · ((try simp only [evE, liE, letsOf, letU, snd] at h3); (try simp only [cmE] at h3))
      rw [hA, if_pos (.inr h3)]; exact ⟨none, 0, rfl, Row.nil ..⟩
    · ((try simp only [evE, liE, letsOf, letU, snd] at h3); (try simp only [cmE] at h3))
      have h4 : ¬ (k < 0 ∨ (l.length : Int) ≤ k) := by omega
      rw [if_neg h4] at hA
      rw [hA]
      clear hA
      obtain ⟨k, rfl⟩ : ∃ k' : Nat, k = k' := ⟨k.toNat, by omega⟩
      rw [Int.toNat_natCast]
      have hk : k < l.length := by omega
      dsimp only
      refine .loop (fun z us m => ∃ (q : Option Addr) (cq j : Nat), j ≤ rs.length ∧ z = rs.length - j ∧ us = [.p q, .i j, .i cq, .i j] ∧ m1.le m ∧ NewQ m1 q ∧ Row m 67 3 q cq j (ccells (rowC (l.map (·.w)) ((rs.map (·.l)).take j) k))) rs.length ⟨none, 0, 0, Nat.zero_le _, rfl, rfl, Mem.le.refl _, nofun, Row.nil ..⟩ ?_
      rintro z _ m _ ⟨q, cq, j, hj, rfl, rfl, hle, hnew, hR⟩
      refine .env (by (try simp only [liE, letsOf, letU, snd, List.append_nil]); rfl) (.chk (by ((try simp only [evE, liE, letsOf, letU, snd]); (try simp only [cmE])); omega) (.ite (fun h5 => ?_) (fun h5 => .ret rfl ?_))) <;> ((try simp only [evE, liE, letsOf, letU, snd] at h5); (try simp only [cmE] at h5))
      · have hjt : j < ts.length := by omega
        have hj : j < rs.length := by omega
        have htj : ts[j].l = colC (l.map (·.w)) rs[j].l := by
          have := congrArg (fun x => x[j]?) hts
          simp only [List.getElem?_map, List.getElem?_eq_getElem hjt, List.getElem?_eq_getElem hj, Option.map_some, Option.some.injEq] at this
          exact this
        have htjl : ts[j].l.length = l.length := by rw [htj, colC_len, hwlen]
        have hTm := hT.le hle
        refine .loadSl (ts.map CR.v) j ts.length ts[j].p ts[j].l.length ts[j].cap hjt (crow_at ts j hjt) (fun g => (hTm.reads g).1) (.env (by (try simp only [liE, letsOf, letU, snd, List.append_nil]); rfl) (.loadCE ts[j].l k (by omega) (fun g => (hTm.reads g).2 _ (List.getElem_mem hjt)) (.env (by (try simp only [liE, letsOf, letU, snd, List.append_nil]); rfl) ?_)))
        have hst := rowC_take (l.map (·.w)) (cols := rs.map (·.l)) (j := j) (by rw [hclen]; exact hj) k
        have hx : ts[j].l[k]'(by omega) = cellE ((l.map (·.w)).getD k []) (labAt (rs.map (·.l))[j] k) := by
          rw [List.getElem_map]
          have := colC_at (l.map (·.w)) rs[j].l (i := k) (by rw [hwlen]; exact hk)
          rw [← this]
          congr 1
        rw [← hx] at hst
        generalize ts[j].l[k]'(by omega) = x at hst ⊢
        refine .alloc' fun b0 _ hb0 _ => .append (q := q) (cap := cq) (n := j) (qx := some ⟨b0, 0, none⟩) (kx := 1) (capx := 1) (news := c3 x) elC hR (fun gd => gd.cells (j := 0) rfl rfl rfl) (c3_len x) (c3_one x) (fun h => by cases h) (by simp [maxLen]; omega) (by omega) (fun q' cap' m' hr' hk' hq' => .againL rfl fun gd => ⟨rs.length - (j + 1), by omega, q', cap', j + 1, by omega, rfl, ?_, ?_, ?_, ?_⟩)
        · (simp only [evE, liE, letsOf, letU, snd, Sh.uss, Sh.us, atAddr, map_add0, List.append_nil]); rw [add_i64 j (by omega)]
        · exact (keep_new hle hnew hk').trans (gd.leB _ _ 0)
        · exact hnew.next hle hq'
        · rw [hst, ccells_snoc]
          exact Row.le hr' (gd.leB _ _ 0)
      · obtain rfl : j = rs.length := by omega
        rw [List.take_of_length_le (by rw [hclen]; omega)] at hR
        refine ⟨q, cq, ?_, ?_⟩
        · rw [rowC_len, hclen]; rfl
        · rw [rowC_len, hclen]; exact hR
  · rw [hA, if_pos h1]; exact ⟨none, 0, rfl, Row.nil ..⟩
theorem c_cells (p q : Option Addr) (cp cq : Nat) (a : List CE) (ha : a.length < 2 ^ 62) : RetP Tryd.prog n_law18_cells [slv p a.length cp, slv q a.length cq] (fun R => Cells R p (ccells a) ∧ Cells R q (ccells a)) (.bool true) := by
  refine Fn.of S_law18_cells mx [.p p, .i a.length, .i cp, .p q, .i a.length, .i cq] rfl rfl fun c hp => .chk (by ((try simp only [evE, liE, letsOf, letU, snd]); (try simp only [cmE])); omega) (.chk (by ((try simp only [evE, liE, letsOf, letU, snd]); (try simp only [cmE])); omega) (.no (by ((try simp only [evE, liE, letsOf, letU, snd]); (try simp only [cmE])) <;> simp) ?_))
  refine .loop (fun z us _ => ∃ (e : Bool) (j : Nat), us = [.b e, .i j] ∧ z + j = a.length) a.length ⟨false, 0, rfl, rfl⟩ ?_
  rintro z _ m _ ⟨e, j, rfl, hz⟩
  refine .env (by (try simp only [liE, letsOf, letU, snd, List.append_nil]); rfl) (.chk (by ((try simp only [evE, liE, letsOf, letU, snd]); (try simp only [cmE])); omega) (.ite (fun h3 => ?_) (fun h3 => .ret rfl rfl))) <;> ((try simp only [evE, liE, letsOf, letU, snd] at h3); (try simp only [cmE] at h3))
  have hj : j < a.length := by omega
  refine .loadCE a j hj (fun g => hp.1.mono g.R) (.env (by (try simp only [liE, letsOf, letU, snd, List.append_nil]); rfl) (.loadCE a j hj (fun g => hp.2.mono g.R) (.env (by (try simp only [liE, letsOf, letU, snd, List.append_nil]); rfl) (.no (by ((try simp only [evE, liE, letsOf, letU, snd]); (try simp only [cmE])) <;> simp) (.again rfl ⟨z - 1, by omega, e, j + 1, ?_, by omega⟩)))))
  (simp only [evE, liE, letsOf, letU, snd, Sh.uss, Sh.us, atAddr, map_add0, List.append_nil]); rw [add_i64 j (by omega)]
end Go.Proofs.YtialbhieaipcgaaDoor
