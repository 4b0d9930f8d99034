/- Layer 24: Word, Cost. -/
import Derived.Test.YtkhcfbdjmpodbaaDoorK3
set_option linter.unusedSimpArgs false
set_option linter.unusedVariables false
namespace Go.Sy
open Go Go.RowKit Go.Proofs.YtkhcfbdjmpodbaaDoor
def matM (cs : List Snd) (ws : List Int) (gap : Int) : List IR := (List.range (cs.length + 1)).map fun a => ⟨none, 0, (List.range (cs.length + 1)).map (matE cs ws gap a)⟩
theorem matM_len (cs : List Snd) (ws : List Int) (gap : Int) : (matM cs ws gap).length = cs.length + 1 := by unfold matM; rw [List.length_map, List.length_range]
theorem matM_at {cs : List Snd} {ws : List Int} {gap : Int} {a b : Nat} (ha : a ≤ cs.length) (hb : b ≤ cs.length) : mAt (matM cs ws gap) a b = matE cs ws gap a b := by
  unfold mAt matM labAt
  rw [List.getElem?_map, List.getElem?_range (by omega)]
  show (((List.range (cs.length + 1)).map (matE cs ws gap a))[b]?).getD 0 = _
  rw [List.getElem?_map, List.getElem?_range (by omega)]; rfl
theorem mAt_big {rm : List IR} {K : Nat} (hl : rm.length = K) (hr : ∀ r ∈ rm, r.l.length = K) {a b : Nat} (h : ¬ (a < K ∧ b < K)) : mAt rm a b = 0 := by
  unfold mAt
  cases e : rm[a]? with
  | none => rfl
  | some r =>
    have ha := (List.getElem?_eq_some_iff.1 e).1
    have := hr r (List.mem_of_getElem? e)
    show labAt r.l b = 0
    unfold labAt
    rw [List.getElem?_eq_none (by omega)]; rfl
theorem mat_same {cs : List Snd} {ws : List Int} {gap : Int} {rs : List RD} (h : MatRows cs ws gap (cs.length + 1) 0 (cs.length + 1) rs) : mAt (rmOf rs) = mAt (matM cs ws gap) := by
  have hl := h.len
  funext a b
  by_cases e : a < cs.length + 1 ∧ b < cs.length + 1
  · rw [rmOf_at h (by omega) (by omega), matM_at (by omega) (by omega)]
  · rw [mAt_big (K := cs.length + 1) (by rw [rmOf_len]; exact hl) (fun r hr => ?_) e, mAt_big (K := cs.length + 1) (matM_len ..) (fun r hr => ?_) e]
    · obtain ⟨a, _, rfl⟩ := List.mem_map.1 hr
      show (List.map _ _).length = _
      rw [List.length_map, List.length_range]
    · obtain ⟨d, hd, rfl⟩ := List.mem_map.1 hr
      obtain ⟨a, ha, rfl⟩ := List.mem_iff_getElem.1 hd
      exact h.rlen a ha (by omega)
theorem tabT_same {t : List ND} {rm rm' : List IR} (h1 : rm.length = rm'.length) (h2 : mAt rm = mAt rm') (ss : List Int) (i : Nat) : tabT t rm ss i = tabT t rm' ss i := by unfold tabT; rw [h1, h2]
theorem leastT_same {t : List ND} {rm rm' : List IR} (h1 : rm.length = rm'.length) (h2 : mAt rm = mAt rm') (ss : List Int) : leastT t rm ss = leastT t rm' ss := by unfold leastT rootO; rw [tabT_same h1 h2, h1]
theorem rootsT_same {t : List ND} {rm rm' : List IR} (h1 : rm.length = rm'.length) (h2 : mAt rm = mAt rm') (ss : List Int) : rootsT t rm ss = rootsT t rm' ss := by unfold rootsT rootsU; rw [tabT_same h1 h2, leastT_same h1 h2, h1]
theorem bestCE_same {cs : List Snd} {t : List ND} {rm rm' : List IR} (h1 : rm.length = rm'.length) (h2 : mAt rm = mAt rm') (l : List CE) : bestCE cs t rm l = bestCE cs t rm' l := by unfold bestCE rootCE; rw [rootsT_same h1 h2]
theorem bestN_same {cs : List Snd} {t : List ND} {rm rm' : List IR} (h1 : rm.length = rm'.length) (h2 : mAt rm = mAt rm') (l : List CE) : bestN cs t rm l = bestN cs t rm' l := by unfold bestN; rw [leastT_same h1 h2]
theorem changeE_same {t : List ND} {rm rm' : List IR} (h2 : mAt rm = mAt rm') (all : List Int) : changeE t rm all = changeE t rm' all := by
  have : ∀ n, upE t rm all n = upE t rm' all n := fun n => by
    induction n with
    | zero => rfl
    | succ n ih => rw [upE_succ, upE_succ, ih, h2]
  exact this _
def wordS (cs : List Snd) (t : List ND) (rm : List IR) (cols : List (List CE)) : List Snd := ((cols.map (bestCE cs t rm)).filter fun y => decide (y.1 = 2)).map (·.2)
def wordN (cs : List Snd) (t : List ND) (rm : List IR) : List (List CE) → Int
  | [] => 0
  | l :: r => bestN cs t rm l + wordN cs t rm r
theorem wordN_append (cs : List Snd) (t : List ND) (rm : List IR) (a b : List (List CE)) : wordN cs t rm (a ++ b) = wordN cs t rm a + wordN cs t rm b := by
  induction a with
  | nil => show _ = 0 + _; rw [Int.zero_add]; rfl
  | cons l r ih =>
    show bestN cs t rm l + wordN cs t rm (r ++ b) = bestN cs t rm l + wordN cs t rm r + _
    rw [ih, Int.add_assoc]
theorem wordS_snoc (cs : List Snd) (t : List ND) (rm : List IR) (cols : List (List CE)) (l : List CE) : wordS cs t rm (cols ++ [l]) = if (bestCE cs t rm l).1 = 2 then wordS cs t rm cols ++ [(bestCE cs t rm l).2] else wordS cs t rm cols := by
  unfold wordS
  rw [List.map_append, List.filter_append, List.map_append]
  by_cases h : (bestCE cs t rm l).1 = 2 <;> simp [h]
theorem wordS_le (cs : List Snd) (t : List ND) (rm : List IR) (cols : List (List CE)) : (wordS cs t rm cols).length ≤ cols.length := by
  unfold wordS
  rw [List.length_map]
  have := List.length_filter_le (fun y : CE => decide (y.1 = 2)) (cols.map (bestCE cs t rm))
  rwa [List.length_map] at this
def wordR (cs : List Snd) (t : List ND) (ws : List Int) (gap : Int) (cols : List (List CE)) : List Snd × Int × Int :=
  if matErr cs ws gap ≠ 0 then ([], 0, matErr cs ws gap) else if (wordS cs t (matM cs ws gap) cols).length > 32 then ([], 0, 11) else (wordS cs t (matM cs ws gap) cols, wordN cs t (matM cs ws gap) cols, 0)
theorem wcells_snoc (w : List Snd) (s : Snd) : wcells (w ++ [s]) = wcells w ++ scell s := by unfold wcells; rw [List.flatMap_append]; simp
structure OkCols (cs : List Snd) (t : List ND) (cols : List (List CE)) : Prop where
  most : cols.length ≤ 64
  len : ∀ l ∈ cols, l.length = (leavesL t).length
  known : ∀ l ∈ cols, ∀ y ∈ l, knownCE cs y
end Go.Sy
namespace Go.Proofs.YtkhcfbdjmpodbaaDoor
open Go Go.Sy Go.RowKit
theorem elS : El Tryd.prog 37 41 2 8 := El.of (by kernel_rfl)
theorem bestN_bound {cs : List Snd} {t : List ND} {rm : List IR} {l : List CE} (hE : treeE t = 0) (h8 : t.length ≤ 8) (hM : OkM rm) (hrc : rm.length = cs.length + 1) (hll : l.length = (leavesL t).length) (hk : ∀ y ∈ l, knownCE cs y) : 0 ≤ bestN cs t rm l ∧ bestN cs t rm l ≤ 1099511627776 := by
  unfold bestN
  split
  · have hS := states_ok hll hk
    rw [← hrc] at hS
    exact least_bound hE h8 hM hS
  · exact ⟨Int.le_refl 0, by decide⟩
theorem wordN_bound {cs : List Snd} {t : List ND} {rm : List IR} (hE : treeE t = 0) (h8 : t.length ≤ 8) (hM : OkM rm) (hrc : rm.length = cs.length + 1) : ∀ {cols : List (List CE)}, (∀ l ∈ cols, l.length = (leavesL t).length) → (∀ l ∈ cols, ∀ y ∈ l, knownCE cs y) → 0 ≤ wordN cs t rm cols ∧ wordN cs t rm cols ≤ (cols.length : Int) * 1099511627776
  | [], _, _ => ⟨Int.le_refl 0, by simp [wordN]⟩
  | l :: r, h1, h2 => by
    have ha := bestN_bound hE h8 hM hrc (h1 l (.head _)) (h2 l (.head _))
    have hb := wordN_bound hE h8 hM hrc (cols := r) (fun x hx => h1 x (.tail _ hx)) fun x hx => h2 x (.tail _ hx)
    have e : wordN cs t rm (l :: r) = bestN cs t rm l + wordN cs t rm r := rfl
    rw [e, List.length_cons]
    omega
set_option maxHeartbeats 2000000 in
theorem c_Word (p pk pc pw : Option Addr) (cp ck cc cw : Nat) (t : List ND) (ts : List CR) (cs : List Snd) (ws : List Int) (gap : Int) (hE : treeE t = 0) (h8 : t.length ≤ 8) (hn : ∀ x ∈ t, x.nm.length < 2 ^ 62) (hcap : cs.length ≤ cc) (hl : cs.length < 2 ^ 40) (hC : OkC cs) (hc : checkC ws gap = 0) (hK : OkCols cs t (ts.map (·.l))) :
    FnM Tryd.prog n_proto_Word [slv p t.length cp, slv pk ts.length ck, slv pc cs.length cc, costs pw ws.length cw gap] (fun R => Cells R p (ncells t) ∧ CellsAt R pk ts ∧ WordAt R pc cs ∧ CostsAt R pw ws ∧ TabOk R) fun v mq _ => ∃ q cq, v = .tuple #[slv q (wordR cs t ws gap (ts.map (·.l))).1.length cq, .int .i64 (wordR cs t ws gap (ts.map (·.l))).2.1, .int .i64 (wordR cs t ws gap (ts.map (·.l))).2.2] ∧
      Row mq 41 2 q cq (wordR cs t ws gap (ts.map (·.l))).1.length (wcells (wordR cs t ws gap (ts.map (·.l))).1) := by
  have hmost := hK.most
  rw [List.length_map] at hmost
  refine FnM.of S_proto_Word mx [.p p, .i t.length, .i cp, .p pk, .i ts.length, .i ck, .p pc, .i cs.length, .i cc, .p pw, .i ws.length, .i cw, .i gap] rfl rfl fun c hp => .alloc fun b0 => ?_
  refine .callE (c_begin p pc pw cp cc cw t cs ws gap hE hn hcap hl hC hc) (fun g => ⟨hp.1.mono g.R, hp.2.2.1.mono g.R, hp.2.2.2.1.mono g.R, hp.2.2.2.2.mono g.R⟩) ?_
  rintro v mq m1 _ hle ⟨hbad, hgood⟩
  by_cases hme : matErr cs ws gap ≠ 0
  · obtain rfl := hbad hme
    refine ⟨[.p none, .i (matErr cs ws gap)], uOk_of rfl, rfl, .env (by (try simp only [liE, lO, lU, snd, aN]); rfl) (.yes (by ((try simp only [evE, liE, lO, lU, snd]); (try simp only [cmE])); exact hme) (.ret rfl ?_))⟩
    unfold wordR
    rw [if_pos hme]
    exact ⟨none, 0, rfl, Row.nil ..⟩
  have hme0 : matErr cs ws gap = 0 := Decidable.not_not.1 hme
  obtain ⟨x, pm, km, bm, rs, rfl, hT, hR⟩ := hgood hme0
  replace hT := hT.le hle
  have hM := rmOf_ok hR hc hme0
  have hrc : (rmOf rs).length = cs.length + 1 := by rw [rmOf_len]; exact hR.len
  have hsame1 : (rmOf rs).length = (matM cs ws gap).length := by rw [hrc, matM_len]
  have hsame2 := mat_same hR
  have hspec : wordR cs t ws gap (ts.map (·.l)) = if (wordS cs t (rmOf rs) (ts.map (·.l))).length > 32 then ([], 0, 11) else (wordS cs t (rmOf rs) (ts.map (·.l)), wordN cs t (rmOf rs) (ts.map (·.l)), 0) := by
    unfold wordR
    rw [if_neg hme]
    have e1 : ∀ cols, wordS cs t (rmOf rs) cols = wordS cs t (matM cs ws gap) cols := fun cols => by
      unfold wordS
      rw [show bestCE cs t (rmOf rs) = bestCE cs t (matM cs ws gap) from funext fun l => bestCE_same hsame1 hsame2 l]
    have e2 : ∀ cols, wordN cs t (rmOf rs) cols = wordN cs t (matM cs ws gap) cols := fun cols => by
      induction cols with
      | nil => rfl
      | cons l r ih => show _ + _ = _ + _; rw [ih, bestN_same hsame1 hsame2]
    rw [e1, e2]
  rw [hspec]
  clear hspec hbad hgood
  refine ⟨[.p (some ⟨x, 0, none⟩), .i 0], uOk_of rfl, rfl, .env (by (try simp only [liE, lO, lU, snd, aN]); rfl) (.no rfl (.chk (by ((try simp only [evE, liE, lO, lU, snd]); (try simp only [cmE])); omega) (.no (by ((try simp only [evE, liE, lO, lU, snd]); (try simp only [cmE])); omega) (.chk (by ((try simp only [evE, liE, lO, lU, snd]); (try simp only [cmE])); omega) ?_))))⟩
  generalize hrm : rmOf rs = rm at *
  refine .loop (fun n us mm => ∃ (q0 : Option Addr) (k0 c0 : Nat) (e1 e2 : Int) (q : Option Addr) (cq j : Nat), us = [.p q0, .i k0, .i c0, .i e1, .i e2, .p q, .i (wordS cs t rm ((ts.map (·.l)).take j)).length, .i cq, .i (wordN cs t rm ((ts.map (·.l)).take j)), .i j] ∧ n + j = ts.length ∧ m1.le mm ∧ NewQ m1 q ∧ Row mm 41 2 q cq (wordS cs t rm ((ts.map (·.l)).take j)).length (wcells (wordS cs t rm ((ts.map (·.l)).take j)))) ts.length
    ⟨none, 0, 0, 0, 0, none, 0, 0, rfl, rfl, Mem.le.refl _, nofun, Row.nil ..⟩ ?_
  rintro n _ m _ ⟨q0, k0, c0, e1, e2, q, cq, j, rfl, hnj, hle2, hnew, hW⟩
  refine .env (by (try simp only [liE, lO, lU, snd, aN]); rfl) (.ite (fun h1 => ?_) (fun h1 => .chk (by ((try simp only [evE, liE, lO, lU, snd]); (try simp only [cmE])); omega) (.ite (fun h2 => .ret rfl ?_) (fun h2 => .ret rfl ?_)))) <;> ((try simp only [evE, liE, lO, lU, snd] at h1); (try simp only [cmE] at h1))
  · have hj : j < ts.length := by omega
    have hjm : j < (ts.map (·.l)).length := by rw [List.length_map]; exact hj
    have hmem : ts[j].l ∈ ts.map (·.l) := List.mem_map_of_mem (List.getElem_mem hj)
    have hlen := hK.len _ hmem
    have hkn := hK.known _ hmem
    have hcl2 : (leavesL t).length ≤ t.length := leavesU_le t t.length
    have htk : (ts.map (·.l)).take (j + 1) = (ts.map (·.l)).take j ++ [ts[j].l] := by rw [List.take_succ_eq_append_getElem hjm, List.getElem_map]
    have hsn := wordS_snoc cs t rm ((ts.map (·.l)).take j) ts[j].l
    have hsl := wordS_le cs t rm ((ts.map (·.l)).take j)
    rw [List.length_take, Nat.min_eq_left (by omega)] at hsl
    have hnn : wordN cs t rm ((ts.map (·.l)).take (j + 1)) = wordN cs t rm ((ts.map (·.l)).take j) + bestN cs t rm ts[j].l := by
      rw [htk, wordN_append]; congr 1; exact Int.add_zero _
    have hnb := bestN_bound hE h8 hM hrc hlen hkn
    have hwb := wordN_bound hE h8 hM hrc (cols := (ts.map (·.l)).take j) (fun l hl => hK.len l (List.mem_of_mem_take hl)) fun l hl => hK.known l (List.mem_of_mem_take hl)
    rw [List.length_take, Nat.min_eq_left (by omega)] at hwb
    rw [← htk] at hsn
    refine .loadSl (ts.map CR.v) j ts.length ts[j].p ts[j].l.length ts[j].cap hj (by rw [List.getElem?_map, List.getElem?_eq_getElem hj]; rfl) (fun g => hp.2.1.1.mono g.R) (.env (by (try simp only [liE, lO, lU, snd, aN]); rfl) ?_)
    refine .callV (c_taskBest x p pc pm cp cc km bm t cs rm ts[j].l hE h8 hn hM hrc hC hl hlen hkn ts[j].p ts[j].cap (by omega)) (fun g => ⟨by rw [← hrm]; exact (hT.le hle2).at g (hp.1.mono g.R) (hp.2.2.1.mono g.R), (hp.2.1.2 _ (List.getElem_mem hj)).mono g.R⟩) (.env (by (try simp only [liE, lO, lU, snd, aN]); rfl) (.alloc fun b1 => .no rfl ?_))
    refine .join (fun us mm => ∃ (q : Option Addr) (cq : Nat), us = [.p q, .i (wordS cs t rm ((ts.map (·.l)).take (j + 1))).length, .i cq] ∧ m1.le mm ∧ NewQ m1 q ∧ Row mm 41 2 q cq (wordS cs t rm ((ts.map (·.l)).take (j + 1))).length (wcells (wordS cs t rm ((ts.map (·.l)).take (j + 1))))) (.ite (fun h2 => ?_) (fun h2 => ?_)) ?_
    · ((try simp only [evE, liE, lO, lU, snd] at h2); (try simp only [cmE] at h2))
      rw [if_pos h2] at hsn
      rw [hsn]
      refine .alloc' fun b2 _ hb2 _ => .append (n := (wordS cs t rm ((ts.map (·.l)).take j)).length) (kx := 1) (qx := some ⟨b2, 0, none⟩) (capx := 1) (news := scell (bestCE cs t rm ts[j].l).2) elS hW (fun g => g.cells (j := 2) rfl rfl rfl) rfl (fun u hu => by simp [scell] at hu; rcases hu with rfl | rfl <;> rfl) (fun h => by cases h) (by simp [maxLen]; omega) (by omega) (fun q3 k3 m3 hr3 hk3 hq3 => .again rfl ⟨q3, k3, ?_, keep_new hle2 hnew hk3, hnew.next hle2 hq3, ?_⟩)
      · (simp only [evE, liE, lO, lU, snd, Sh.uss, Sh.us, atAddr, map_add0, List.append_nil]); rw [List.length_append]; rfl
      · rw [List.length_append, wcells_snoc]; exact hr3
    · ((try simp only [evE, liE, lO, lU, snd] at h2); (try simp only [cmE] at h2))
      rw [if_neg h2] at hsn
      rw [hsn]
      exact .again rfl ⟨q, cq, by (simp only [evE, liE, lO, lU, snd, Sh.uss, Sh.us, atAddr, map_add0, List.append_nil]), hle2, hnew, hW⟩
    rintro _ m' _ ⟨q3, k3, rfl, hle3, hnew3, hW3⟩
    refine .env (by (try simp only [liE, lO, lU, snd, aN]); rfl) (.again rfl ⟨n - 1, by omega, q0, k0, c0, e1, e2, q3, k3, j + 1, ?_, by omega, hle3, hnew3, hW3⟩)
    (simp only [evE, liE, lO, lU, snd, Sh.uss, Sh.us, atAddr, map_add0, List.append_nil])
    rw [add_i64 j (by omega), addI (by omega) (by omega), hnn]
  · ((try simp only [evE, liE, lO, lU, snd] at h2); (try simp only [cmE] at h2))
    rw [List.take_of_length_le (by rw [List.length_map]; omega)] at h2 hW
    rw [if_pos (by omega)]
    exact ⟨none, 0, rfl, Row.nil ..⟩
  · ((try simp only [evE, liE, lO, lU, snd] at h2); (try simp only [cmE] at h2))
    rw [List.take_of_length_le (by rw [List.length_map]; omega)] at h2 hW ⊢
    rw [if_neg (by omega)]
    exact ⟨q, cq, rfl, hW⟩
theorem c_protoCost (p pa pc pw : Option Addr) (cp ca cc cw : Nat) (t : List ND) (all : List CE) (cs : List Snd) (ws : List Int) (gap : Int) (hE : treeE t = 0) (hn : ∀ x ∈ t, x.nm.length < 2 ^ 62) (hcap : cs.length ≤ cc) (hl : cs.length < 2 ^ 40) (hC : OkC cs) (hc : checkC ws gap = 0) (hme : matErr cs ws gap = 0) (hal : all.length = t.length) (hk : ∀ y ∈ all, knownCE cs y ∧ y.1 ≠ 0) :
    RetP Tryd.prog n_proto_Cost [slv p t.length cp, slv pa all.length ca, slv pc cs.length cc, costs pw ws.length cw gap] (fun R => Cells R p (ncells t) ∧ Cells R pa (ccells all) ∧ WordAt R pc cs ∧ CostsAt R pw ws ∧ TabOk R) (.tuple #[.int .i64 (changeE t (matM cs ws gap) (all.map (stateE cs))), .int .i64 0]) := by
  obtain ⟨h0, h63, _⟩ := treeE_ok hE
  refine Fn.of S_proto_Cost mx [.p p, .i t.length, .i cp, .p pa, .i all.length, .i ca, .p pc, .i cs.length, .i cc, .p pw, .i ws.length, .i cw, .i gap] rfl rfl fun c hp => .alloc fun b0 => ?_
  refine .callE (c_begin p pc pw cp cc cw t cs ws gap hE hn hcap hl hC hc) (fun g => ⟨hp.1.mono g.R, hp.2.2.1.mono g.R, hp.2.2.2.1.mono g.R, hp.2.2.2.2.mono g.R⟩) ?_
  rintro v mq m1 _ hle ⟨_, hgood⟩
  obtain ⟨x, pm, km, bm, rs, rfl, hT, hR⟩ := hgood hme
  replace hT := hT.le hle
  have hM := rmOf_ok hR hc hme
  have hrc : (rmOf rs).length = cs.length + 1 := by rw [rmOf_len]; exact hR.len
  rw [← changeE_same (mat_same hR)]
  refine ⟨[.p (some ⟨x, 0, none⟩), .i 0], uOk_of rfl, rfl, .env (by (try simp only [liE, lO, lU, snd, aN]); rfl) (.no rfl (.chk (by ((try simp only [evE, liE, lO, lU, snd]); (try simp only [cmE])); omega) (.chk (by ((try simp only [evE, liE, lO, lU, snd]); (try simp only [cmE])); omega) (.no (by ((try simp only [evE, liE, lO, lU, snd]); (try simp only [cmE])); omega) ?_))))⟩
  refine .callV (c_pvalid pa ca all (by omega) fun y hy => (hk y hy).1.1) (fun g => hp.2.1.mono g.R) (.env (by (try simp only [liE, lO, lU, snd, aN]); rfl) (.no rfl ?_))
  refine .callV (c_contN pa ca all (by omega) fun y hy => (hk y hy).2) (fun g => hp.2.1.mono g.R) (.env (by (try simp only [liE, lO, lU, snd, aN]); rfl) (.no rfl ?_))
  refine .callE (c_states x p pc pm pa cp cc km bm ca t cs (rmOf rs) all hC hl (by omega) fun y hy => (hk y hy).1) (fun g => ⟨hT.at g (hp.1.mono g.R) (hp.2.2.1.mono g.R), hp.2.1.mono g.R⟩) ?_
  rintro v mq2 m2 hle2 hle3 ⟨q2, c2, rfl, hR2⟩
  replace hR2 := Row.le hR2 hle3
  have hT2 := hT.le hle2
  have hA : OkA t (rmOf rs).length (all.map (stateE cs)) := ⟨by rw [List.length_map]; exact hal, fun s hs => by
    obtain ⟨y, hy, rfl⟩ := List.mem_map.1 hs
    have h1 := stateE_range (hk y hy).1
    have h2 : 0 ≤ stateE cs y := by
      unfold stateE
      rw [if_neg (hk y hy).2]
      split <;> omega
    omega⟩
  have hco := c_sCost p pm q2 cp km c2 t (rmOf rs) (all.map (stateE cs)) hE hn hM hA
  rw [List.length_map] at hco
  refine ⟨[.p q2, .i all.length, .i c2, .b (all.any fun y => decide (y.1 ≠ 0)), .i 0], uOk_of rfl, rfl, .env (by (try simp only [liE, lO, lU, snd, aN]); rfl) (.no rfl (.chk rfl (.chk rfl ?_)))⟩
  refine .loadS [slv p t.length cp, slv pc cs.length cc, .map (some bm), slv pm (rmOf rs).length km] 3 pm (rmOf rs).length km rfl rfl (fun g => (hT2.at g (hp.1.mono g.R) (hp.2.2.1.mono g.R)).box) (.env (by (try simp only [liE, lO, lU, snd, aN]); rfl) ?_)
  exact .callV hco (fun g => ⟨(hT2.at g (hp.1.mono g.R) (hp.2.2.1.mono g.R)).prob, hR2.reads g⟩) (.env (by (try simp only [liE, lO, lU, snd, aN]); rfl) (.ret rfl rfl))
end Go.Proofs.YtkhcfbdjmpodbaaDoor
