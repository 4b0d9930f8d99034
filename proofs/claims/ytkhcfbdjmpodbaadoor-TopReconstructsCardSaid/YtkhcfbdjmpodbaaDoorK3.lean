/- Layer 24: the reconstruction of a correspondence. -/
import Derived.Test.YtkhcfbdjmpodbaaDoorK2
set_option linter.unusedSimpArgs false
set_option linter.unusedVariables false
namespace Go.Sy
open Go Go.RowKit Go.Proofs.YtkhcfbdjmpodbaaDoor
def cellOf (cs : List Snd) (s : Nat) : CE := if s < cs.length then (2, cs.getD s (0, 0)) else (1, (0, 0))
def rootCE (cs : List Snd) (t : List ND) (rm : List IR) (ss : List Int) : CE := cellOf cs (labAt (rootsT t rm ss) 0).toNat
def knownL (l : List CE) : Bool := l.any fun y => decide (y.1 ≠ 0)
def bestCE (cs : List Snd) (t : List ND) (rm : List IR) (l : List CE) : CE := if knownL l = true then rootCE cs t rm (l.map (stateE cs)) else (0, (0, 0))
def bestN (cs : List Snd) (t : List ND) (rm : List IR) (l : List CE) : Int := if knownL l = true then leastT t rm (l.map (stateE cs)) else 0
theorem rootsT_mem {t : List ND} {rm : List IR} {ss : List Int} {x : Int} (h : x ∈ rootsT t rm ss) : ∃ s : Nat, x = s ∧ s < rm.length ∧ oI (tabT t rm ss (t.length - 1) 0 s) = leastT t rm ss := by
  unfold rootsT rootsU at h
  obtain ⟨s, hs, rfl⟩ := List.mem_map.1 h
  obtain ⟨h1, h2⟩ := List.mem_filter.1 hs
  exact ⟨s, rfl, List.mem_range.1 h1, by simpa using h2⟩
theorem rootsT_pos {t : List ND} {rm : List IR} {ss : List Int} (hE : treeE t = 0) (hM : OkM rm) (hS : OkS t rm.length ss) : 0 < (rootsT t rm ss).length := by
  obtain ⟨l, hl⟩ := root_some hE hM hS
  obtain ⟨b, hb, e⟩ := leastO_at hl
  have : ((b : Nat) : Int) ∈ rootsT t rm ss := by
    unfold rootsT rootsU
    refine List.mem_map.2 ⟨b, List.mem_filter.2 ⟨List.mem_range.2 hb, ?_⟩, rfl⟩
    rw [e]
    simp only [decide_eq_true_eq]
    unfold leastT; rw [hl]
  exact List.length_pos_of_mem this
theorem states_ok {t : List ND} {cs : List Snd} {l : List CE} (hl : l.length = (leavesL t).length) (hk : ∀ y ∈ l, knownCE cs y) : OkS t (cs.length + 1) (l.map (stateE cs)) := ⟨by rw [List.length_map]; exact hl, fun s hs => by
  obtain ⟨y, hy, rfl⟩ := List.mem_map.1 hs
  have := stateE_range (hk y hy)
  omega⟩
end Go.Sy
namespace Go.Proofs.YtkhcfbdjmpodbaaDoor
open Go Go.Sy Go.RowKit
theorem c_taskCell' (x : Nat) (p pc pm : Option Addr) (cp cc km bm : Nat) (t : List ND) (cs : List Snd) (rm : List IR) (s : Nat) (hs : s ≤ cs.length) (hl : cs.length < 2 ^ 40) :
    RetP Tryd.prog n___proto_task__cell [.pointer (some ⟨x, 0, none⟩), .int .i64 s] (fun R => TaskAt R x p pc pm cp cc km bm t cs rm) (.agg #[.int .i64 (cellOf cs s).1, .int .u32 (cellOf cs s).2.1, .int .u32 (cellOf cs s).2.2]) := by
  have h := c_taskCell x p pc pm cp cc km bm t cs rm s hs hl
  unfold cellOf
  split
  · rename_i hlt
    rw [dif_pos hlt] at h
    rw [getD_at _ _ _ hlt]; exact h
  · rename_i hlt
    rw [dif_neg hlt] at h; exact h
structure BoxB (m : Mem) (bo bc : Nat) (y : CE) (n : Int) : Prop where
  out : m bo = some (.cells (c3 y).toArray 43 (0, 0))
  cost : m bc = some (.cells #[.int .i64 n] 2 (0, 0))
section
variable (x bx bo bc : Nat) (p pc pm : Option Addr) (cp cc km bm : Nat) (t : List ND) (cs : List Snd) (rm : List IR) (l : List CE) (hE : treeE t = 0) (h8 : t.length ≤ 8) (hn : ∀ x ∈ t, x.nm.length < 2 ^ 62) (hM : OkM rm) (hrc : rm.length = cs.length + 1) (hC : OkC cs) (hcl : cs.length < 2 ^ 40) (hll : l.length = (leavesL t).length) (hk : ∀ y ∈ l, knownCE cs y)
include hE h8 hn hM hrc hC hcl hll hk
omit hC in
theorem c_best1 (ps : Option Addr) (c0 : Nat) (mo : Mem) (hbb : bo ≠ bc) (hmo : BoxB mo bo bc (0, (0, 0)) 0) :
    FnRO Tryd.prog n___proto_task__best_1 [slv ps l.length c0, .pointer (some ⟨bx, 0, none⟩), .pointer (some ⟨bo, 0, none⟩), .pointer (some ⟨bc, 0, none⟩)] (fun R => (Cells R (some ⟨bx, 0, none⟩) [.pointer (some ⟨x, 0, none⟩)] ∧ TaskAt R x p pc pm cp cc km bm t cs rm) ∧ Cells R ps (intsL (l.map (stateE cs)))) mo
      fun v mq => v = .int .i64 0 ∧ BoxB mq bo bc (rootCE cs t rm (l.map (stateE cs))) (leastT t rm (l.map (stateE cs))) := by
  have hS := states_ok hll hk
  rw [← hrc] at hS
  have hlm : (l.map (stateE cs)).length = l.length := List.length_map _
  have hRo := c_Roots p pm ps cp km c0 t rm (l.map (stateE cs)) hE h8 hn hM hS
  have hMi := c_Min p pm ps cp km c0 t rm (l.map (stateE cs)) hE h8 hn hM hS
  rw [hlm] at hRo hMi
  have hpos := rootsT_pos hE hM hS
  obtain ⟨s, hs, hsl, _⟩ := rootsT_mem (List.getElem_mem (l := rootsT t rm (l.map (stateE cs))) hpos)
  have hlab : labAt (rootsT t rm (l.map (stateE cs))) 0 = s := by rw [labAt_get hpos, hs]
  have hrce : rootCE cs t rm (l.map (stateE cs)) = cellOf cs s := by unfold rootCE; rw [hlab, Int.toNat_natCast]
  rw [hrce]
  refine FnRO.of S___proto_task__best_1 mx [.p ps, .i l.length, .i c0, .p (some ⟨bx, 0, none⟩), .p (some ⟨bo, 0, none⟩), .p (some ⟨bc, 0, none⟩)] rfl rfl fun c hp => ?_
  obtain ⟨⟨hbx, hT⟩, hps⟩ := hp
  refine .load1 (.pointer (some ⟨x, 0, none⟩)) _ _ 0 rfl rfl (fun g => hbx.mono g.R) rfl (.env (by (try simp only [liE, lO, lU, snd, aN]); rfl) (.chk rfl (.chk rfl ?_)))
  refine .loadS [slv p t.length cp, slv pc cs.length cc, .map (some bm), slv pm rm.length km] 0 p t.length cp rfl rfl (fun g => hT.box.mono g.R) (.env (by (try simp only [liE, lO, lU, snd, aN]); rfl) ?_)
  refine .load1 (.pointer (some ⟨x, 0, none⟩)) _ _ 0 rfl rfl (fun g => hbx.mono g.R) rfl (.env (by (try simp only [liE, lO, lU, snd, aN]); rfl) (.chk rfl (.chk rfl ?_)))
  refine .loadS [slv p t.length cp, slv pc cs.length cc, .map (some bm), slv pm rm.length km] 3 pm rm.length km rfl rfl (fun g => hT.box.mono g.R) (.env (by (try simp only [liE, lO, lU, snd, aN]); rfl) ?_)
  refine .callE hRo (fun g => ⟨hT.prob.mono g.R, hps.mono g.R⟩) ?_
  rintro v mq m1 hle hle2 ⟨q, cq, rfl, hR⟩
  replace hR := Row.le hR hle2
  refine ⟨[.p q, .i (rootsT t rm (l.map (stateE cs))).length, .i cq, .i 0], uOk_of rfl, (tab_fresh _ _ _ _ _ _).symm, .env (by (try simp only [liE, lO, lU, snd, aN]); rfl) (.no rfl ?_)⟩
  refine .load1 (.pointer (some ⟨x, 0, none⟩)) _ _ 0 rfl rfl (fun g => hbx.mono g.R) rfl (.env (by (try simp only [liE, lO, lU, snd, aN]); rfl) ?_)
  refine .chk0 (n := (rootsT t rm (l.map (stateE cs))).length) (xs := intsL (rootsT t rm (l.map (stateE cs)))) hpos (fun g => hR.reads g) rfl (intsL_len _) ?_
  refine .load1 (.int .i64 s) q (intsL (rootsT t rm (l.map (stateE cs)))) 0 rfl rfl (fun g => hR.reads g) (by rw [intsL_at _ 0 hpos, hlab]) (.env (by (try simp only [liE, lO, lU, snd, aN]); rfl) ?_)
  refine .callV (c_taskCell' x p pc pm cp cc km bm t cs rm s (by omega) hcl) (fun g => hT.mono g.R) (.env (by (try simp only [liE, lO, lU, snd, aN]); rfl) ?_)
  have ho1 := hle _ _ hmo.out
  have hc1 := hle _ _ hmo.cost
  generalize cellOf cs s = y
  refine .store bo 0 (c3 (0, (0, 0))).toArray 43 rfl rfl ho1 (by simp [c3]) ?_
  rw [show (putAt (c3 (0, (0, 0))).toArray.toList 0 (SV.dens [] _ _)).toArray = (c3 y).toArray from rfl]
  refine .load1 (.pointer (some ⟨x, 0, none⟩)) _ _ 0 rfl rfl (fun g => hbx.mono g.R) rfl (.env (by (try simp only [liE, lO, lU, snd, aN]); rfl) (.chk rfl (.chk rfl ?_)))
  refine .loadS [slv p t.length cp, slv pc cs.length cc, .map (some bm), slv pm rm.length km] 0 p t.length cp rfl rfl (fun g => hT.box.mono g.R) (.env (by (try simp only [liE, lO, lU, snd, aN]); rfl) ?_)
  refine .load1 (.pointer (some ⟨x, 0, none⟩)) _ _ 0 rfl rfl (fun g => hbx.mono g.R) rfl (.env (by (try simp only [liE, lO, lU, snd, aN]); rfl) (.chk rfl (.chk rfl ?_)))
  refine .loadS [slv p t.length cp, slv pc cs.length cc, .map (some bm), slv pm rm.length km] 3 pm rm.length km rfl rfl (fun g => hT.box.mono g.R) (.env (by (try simp only [liE, lO, lU, snd, aN]); rfl) ?_)
  refine .callV hMi (fun g => ⟨hT.prob.mono g.R, hps.mono g.R⟩) (.env (by (try simp only [liE, lO, lU, snd, aN]); rfl) ?_)
  refine .store bc 0 #[.int .i64 0] 2 rfl rfl (by rw [Mem.upd_other _ _ hbb.symm]; exact hc1) (by simp) (.ret rfl ⟨rfl, ?_, ?_⟩)
  · rw [Mem.upd_other _ _ hbb]; exact Mem.upd_same ..
  · exact Mem.upd_same ..
theorem c_on (pl : Option Addr) (cl : Nat) (hl64 : l.length ≤ 64) (mo : Mem) (hbb : bo ≠ bc) (hmo : BoxB mo bo bc (0, (0, 0)) 0) :
    FnRO Tryd.prog n___proto_task__on [.pointer (some ⟨x, 0, none⟩), slv pl l.length cl, .func (.func n___proto_task__best_1) #[] #[.pointer (some ⟨bx, 0, none⟩), .pointer (some ⟨bo, 0, none⟩), .pointer (some ⟨bc, 0, none⟩)]] (fun R => (Cells R (some ⟨bx, 0, none⟩) [.pointer (some ⟨x, 0, none⟩)] ∧ TaskAt R x p pc pm cp cc km bm t cs rm) ∧ Cells R pl (ccells l)) mo
      fun v mq => v = .int .i64 0 ∧ BoxB mq bo bc (bestCE cs t rm l) (bestN cs t rm l) := by
  obtain ⟨h0, h63, _⟩ := treeE_ok hE
  have hL := c_Leaves p cp t (by omega) hn
  rw [leavesE_ok hE] at hL
  have hcl2 : (leavesL t).length ≤ t.length := leavesU_le t t.length
  refine FnRO.of S___proto_task__on mx [.p (some ⟨x, 0, none⟩), .p pl, .i l.length, .i cl, .v (.func (.func n___proto_task__best_1) #[] #[.pointer (some ⟨bx, 0, none⟩), .pointer (some ⟨bo, 0, none⟩), .pointer (some ⟨bc, 0, none⟩)])] rfl rfl fun c hp => .chk rfl (.chk rfl ?_)
  obtain ⟨⟨hbx, hT⟩, hpl⟩ := hp
  refine .loadS [slv p t.length cp, slv pc cs.length cc, .map (some bm), slv pm rm.length km] 0 p t.length cp rfl rfl (fun g => hT.box.mono g.R) (.env (by (try simp only [liE, lO, lU, snd, aN]); rfl) ?_)
  refine .callE hL (fun g => hT.prob.t.mono g.R) ?_
  rintro v mq m1 hle1 _ ⟨q, cq, rfl, _⟩
  refine ⟨[.p q, .i (leavesL t).length, .i cq, .i 0], uOk_of rfl, (tab_fresh _ _ _ _ _ _).symm, .env (by (try simp only [liE, lO, lU, snd, aN]); rfl) (.chk (by ((try simp only [evE, liE, lO, lU, snd]); (try simp only [cmE])); omega) (.chk (by ((try simp only [evE, liE, lO, lU, snd]); (try simp only [cmE])); omega) (.no (by ((try simp only [evE, liE, lO, lU, snd]); (try simp only [cmE])); omega) ?_)))⟩
  refine .callV (c_pvalid pl cl l hl64 fun y hy => (hk y hy).1) (fun g => hpl.mono g.R) (.env (by (try simp only [liE, lO, lU, snd, aN]); rfl) (.no rfl ?_))
  refine .callM (c_states x p pc pm pl cp cc km bm cl t cs rm l hC hcl (by omega) hk) rfl rfl (fun g => ⟨hT.mono g.R, hpl.mono g.R⟩) ?_
  rintro v mq2 hfr ⟨q2, c2, rfl, hR2⟩
  have hmo2 : ∀ b o, mo b = some o → (m1.join mq2) b = some o := fun b o hb => by
    have := hle1 b o hb
    unfold Mem.join; rw [this]
  refine ⟨[.p q2, .i l.length, .i c2, .b (knownL l), .i 0], uOk_of rfl, ?_, .env (by (try simp only [liE, lO, lU, snd, aN]); rfl) (.ite (fun h1 => .ret rfl ⟨rfl, ?_⟩) (fun h1 => ?_))⟩
  · rfl
  · replace h1 : (bif cm .neq (0 : Int) 0 then true else !(knownL l)) = true := h1
    have hkn : ¬ knownL l = true := by
      intro h; rw [h] at h1; cases h1
    unfold bestCE bestN
    rw [if_neg hkn, if_neg hkn]
    exact ⟨hmo2 _ _ hmo.out, hmo2 _ _ hmo.cost⟩
  · replace h1 : (bif cm .neq (0 : Int) 0 then true else !(knownL l)) = false := h1
    have hkn : knownL l = true := by
      cases h : knownL l with
      | true => rfl
      | false => rw [h] at h1; cases h1
    unfold bestCE bestN
    rw [if_pos hkn, if_pos hkn]
    have hb1 := c_best1 x bx bo bc p pc pm cp cc km bm t cs rm l hE h8 hn hM hrc hcl hll hk q2 c2 mo hbb hmo
    have hfv : FnVRO Tryd.prog (.func (.func n___proto_task__best_1) #[] #[.pointer (some ⟨bx, 0, none⟩), .pointer (some ⟨bo, 0, none⟩), .pointer (some ⟨bc, 0, none⟩)]) [slv q2 l.length c2] _ mo _ := .of (args := [slv q2 l.length c2]) (cap := [.pointer (some ⟨bx, 0, none⟩), .pointer (some ⟨bo, 0, none⟩), .pointer (some ⟨bc, 0, none⟩)]) (by kernel_rfl) hb1
    refine .callvRO hfv rfl rfl rfl hmo2 (fun g => ⟨⟨hbx.mono (g.Rout hmo2), hT.mono (g.Rout hmo2)⟩, ?_⟩) ?_
    · have hR3 : Row (m1.join mq2) 3 1 q2 c2 l.length (intsL (l.map (stateE cs))) := hR2.keep fun g _ hg => join_new (hfr g hg).1
      refine cells_out (hR3.reads g) fun b o hb => ?_
      cases hm : mo b with
      | none => rfl
      | some z =>
        exfalso
        rcases hR2.2 with ⟨h, _⟩ | ⟨g', cur, h, hg', _⟩
        · rw [h] at hb; cases hb
        · rw [h] at hb; cases hb
          have := (hfr b (by rw [hg']; simp)).1
          rw [hle1 _ _ hm] at this; cases this
    · rintro v mq3 hfr3 ⟨rfl, hB⟩
      refine ⟨[.i 0], uOk_of rfl, rfl, .env (by (try simp only [liE, lO, lU, snd, aN]); rfl) (.ret rfl ⟨rfl, ?_, ?_⟩)⟩
      · rw [minus_join (.inl (by rw [hmo.out]; simp))]; exact hB.out
      · rw [minus_join (.inl (by rw [hmo.cost]; simp))]; exact hB.cost
theorem c_taskBest (pl : Option Addr) (cl : Nat) (hl64 : l.length ≤ 64) :
    RetP Tryd.prog n___proto_task__best [.pointer (some ⟨x, 0, none⟩), slv pl l.length cl] (fun R => TaskAt R x p pc pm cp cc km bm t cs rm ∧ Cells R pl (ccells l)) (.tuple #[.agg #[.int .i64 (bestCE cs t rm l).1, .int .u32 (bestCE cs t rm l).2.1, .int .u32 (bestCE cs t rm l).2.2], .int .i64 (bestN cs t rm l), .int .i64 0]) := by
  refine Fn.of S___proto_task__best mx [.p (some ⟨x, 0, none⟩), .p pl, .i l.length, .i cl] rfl rfl fun c hp => .alloc' fun bx hbxL _ _ => .allocc fun bo hbo1 hboL hbo2 => .allocc fun bc hbc1 hbcL hbc2 => ?_
  have hbb : bo ≠ bc := fun e => by rw [← e, Mem.upd_same] at hbc1; cases hbc1
  have hbox : bx ≠ bo := fun e => hboL (by rw [← e]; simp)
  have hbcx : bx ≠ bc := fun e => hbcL (by rw [← e]; simp)
  have hB0 : BoxB ((Mem.emp.upd bo (.cells (c3 (0, (0, 0))).toArray 43 (0, 0))).upd bc (.cells #[.int .i64 0] 2 (0, 0))) bo bc (0, (0, 0)) 0 := ⟨by rw [Mem.upd_other _ _ hbb]; exact Mem.upd_same .., Mem.upd_same ..⟩
  have hmx : ((Mem.emp.upd bo (.cells (c3 (0, (0, 0))).toArray 43 (0, 0))).upd bc (.cells #[.int .i64 0] 2 (0, 0))) bx = none := by rw [Mem.upd_other _ _ hbcx, Mem.upd_other _ _ hbox]; rfl
  refine .env (by (try simp only [liE, lO, lU, snd, aN]); rfl) ?_
  change DenM _ _ _ _ _ _ _ ((Mem.emp.upd bo (.cells (c3 (0, (0, 0))).toArray 43 (0, 0))).upd bc (.cells #[.int .i64 0] 2 (0, 0))) _
  generalize (Mem.emp.upd bo (.cells (c3 (0, (0, 0))).toArray 43 (0, 0))).upd bc (.cells #[.int .i64 0] 2 (0, 0)) = mo at hB0 hmx
  have hon := c_on x bx bo bc p pc pm cp cc km bm t cs rm l hE h8 hn hM hrc hC hcl hll hk pl cl hl64 mo hbb hB0
  refine .callRO hon rfl rfl (fun _ _ h => h) (fun g => ⟨⟨cells_out (g.cells (j := 0) rfl rfl rfl) fun b o hb => by cases hb; exact hmx, hp.1.mono (g.Rout fun _ _ h => h)⟩, hp.2.mono (g.Rout fun _ _ h => h)⟩) ?_
  rintro v mq hfr ⟨rfl, hB⟩
  have hB2 : BoxB ((mo.minus mo).join mq) bo bc (bestCE cs t rm l) (bestN cs t rm l) := ⟨by rw [minus_join (.inl (by rw [hB0.out]; simp))]; exact hB.out, by rw [minus_join (.inl (by rw [hB0.cost]; simp))]; exact hB.cost⟩
  generalize (mo.minus mo).join mq = m2 at hB2 ⊢
  generalize bestCE cs t rm l = y at hB2 ⊢
  generalize bestN cs t rm l = n at hB2 ⊢
  refine ⟨[.i 0], uOk_of rfl, rfl, .env (by (try simp only [liE, lO, lU, snd, aN]); rfl) ?_⟩
  refine .loadAll [.i y.1, .i y.2.1, .i y.2.2] (some ⟨bo, 0, none⟩) (c3 y) rfl (fun g => cells_of_mem g hB2.out) (by simp [c3]) (.env (by (try simp only [liE, lO, lU, snd, aN]); rfl) ?_)
  refine .loadAll [.i n] (some ⟨bc, 0, none⟩) [.int .i64 n] rfl (fun g => cells_of_mem g hB2.cost) (by simp) (.env (by (try simp only [liE, lO, lU, snd, aN]); rfl) ?_)
  refine .storeSame bo 0 (c3 y).toArray 43 rfl hB2.out (by simp [c3]) rfl ?_
  refine .storeSame bc 0 #[.int .i64 n] 2 rfl hB2.cost (by simp) rfl ?_
  refine .loadAll [.i y.1, .i y.2.1, .i y.2.2] (some ⟨bo, 0, none⟩) (c3 y) rfl (fun g => cells_of_mem g hB2.out) (by simp [c3]) (.env (by (try simp only [liE, lO, lU, snd, aN]); rfl) ?_)
  exact .loadAll [.i n] (some ⟨bc, 0, none⟩) [.int .i64 n] rfl (fun g => cells_of_mem g hB2.cost) (by simp) (.env (by (try simp only [liE, lO, lU, snd, aN]); rfl) (.ret rfl rfl))
end
end Go.Proofs.YtkhcfbdjmpodbaaDoor
