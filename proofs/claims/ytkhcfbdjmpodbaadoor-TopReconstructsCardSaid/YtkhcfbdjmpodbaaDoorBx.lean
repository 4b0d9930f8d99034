/- Layer 22: leaves. Layer 23: what is asked of costs and states; the nodes backwards. -/
import Derived.Test.YtkhcfbdjmpodbaaDoorBu
import Derived.Test.YtkhcfbdjmpodbaaDoorTh
import Derived.Test.YtkhcfbdjmpodbaaDoorSk
set_option linter.unusedSimpArgs false
set_option linter.unusedVariables false
/- Layer 22: leaves. Layer 23: what is asked of costs and states; the nodes backwards. -/
namespace Go.Sy
open Go Go.RowKit
theorem tab_fresh (ρ : Env) (L : List Nat) (q : Option Addr) (n cap : Nat) (e : Int) : ((Sh.tup [.sl, .int .i64]).fresh ρ.length).1.den L (ρ ++ [.p q, .i n, .i cap, .i e]) = .tuple #[slv q n cap, .int .i64 e] := by
  have e1 := sl_at ρ L q n cap [.i e]
  have e2 := getElem_env ρ [.p q, .i n, .i cap, .i e] 3
  simp only [Sh.fresh, Sh.freshs, SV.den, SV.dens, IT.eval, Env.int] at e1 e2 ⊢
  rw [e1, show ρ.length + 1 + 2 = ρ.length + 3 by omega, e2]
  rfl
def leavesU (t : List ND) (j : Nat) : List Int := ((List.range j).filter fun v => !hasKid t t.length v).map fun (v : Nat) => (v : Int)
theorem leavesU_succ (t : List ND) (j : Nat) : leavesU t (j + 1) = if hasKid t t.length j = true then leavesU t j else leavesU t j ++ [(j : Int)] := by
  unfold leavesU
  rw [List.range_succ, List.filter_append, List.map_append]
  cases h : hasKid t t.length j <;> simp [h]
theorem leavesU_le (t : List ND) (j : Nat) : (leavesU t j).length ≤ j := by
  unfold leavesU
  rw [List.length_map]
  have := List.length_filter_le (fun v => !hasKid t t.length v) (List.range j)
  rwa [List.length_range] at this
theorem leavesL_mem {t : List ND} {x : Int} (h : x ∈ leavesL t) : ∃ v : Nat, x = v ∧ v < t.length := by
  unfold leavesL at h
  obtain ⟨v, hv, rfl⟩ := List.mem_map.1 h
  exact ⟨v, rfl, List.mem_range.1 (List.mem_filter.1 hv).1⟩
def leavesE (t : List ND) : List Int × Int := if treeE t ≠ 0 then ([], treeE t) else (leavesL t, 0)
structure OkM (rm : List IR) : Prop where
  pos : 1 ≤ rm.length
  most : rm.length ≤ 12
  row : ∀ r ∈ rm, r.l.length = rm.length
  at' : ∀ r ∈ rm, ∀ x ∈ r.l, 0 ≤ x ∧ x ≤ 1073741824
end Go.Sy
namespace Go.Proofs.YtkhcfbdjmpodbaaDoor
open Go Go.Sy Go.RowKit
theorem c_leaves (p : Option Addr) (cp : Nat) (t : List ND) (hE : treeE t = 0) : FnM Tryd.prog n_tree_leaves [slv p t.length cp] (fun R => Cells R p (ncells t)) fun v mq _ => ∃ q cq, v = slv q (leavesL t).length cq ∧ Row mq 3 1 q cq (leavesL t).length (intsL (leavesL t)) := by
  obtain ⟨h0, h63, hpar⟩ := treeE_ok hE
  refine FnM.of S_tree_leaves mx [.p p, .i t.length, .i cp] rfl rfl fun c hp => .callE (c_families p cp t hE) (fun g => hp.mono g.R) ?_
  rintro v mq m1 _ hle ⟨g, rs, rfl, hT, hrl, hk⟩
  refine ⟨[.p (some ⟨g, 0, none⟩), .i t.length, .i t.length], uOk_of rfl, (slv_fresh ..).symm, ?_⟩
  have hT1 : Tab m1 _ _ _ _ _ rs := hT.keep fun b hb => hle.keep hb
  clear hT hle
  refine .env (by (try simp only [liE, lO, lU, snd, aN]); rfl) (.chk (by ((try simp only [evE, liE, lO, lU, snd]); (try simp only [cmE])); omega) ?_)
  refine .loop (fun n us mm => ∃ (q : Option Addr) (cq j : Nat), us = [.p q, .i (leavesU t j).length, .i cq, .i j] ∧ n + j = t.length ∧ m1.le mm ∧ NewQ m1 q ∧ Row mm 3 1 q cq (leavesU t j).length (intsL (leavesU t j))) t.length
    ⟨none, 0, 0, rfl, rfl, Mem.le.refl _, nofun, Row.nil ..⟩ ?_
  rintro n _ m _ ⟨q, cq, j, rfl, hn, hle, hnew, hR⟩
  refine .env (by (try simp only [liE, lO, lU, snd, aN]); rfl) (.ite (fun h1 => ?_) (fun h1 => .ret rfl ⟨q, cq, by rw [show j = t.length by ((try simp only [evE, liE, lO, lU, snd] at h1); (try simp only [cmE] at h1)); omega]; rfl, by rw [show j = t.length by ((try simp only [evE, liE, lO, lU, snd] at h1); (try simp only [cmE] at h1)); omega] at hR; exact hR⟩)) <;> ((try simp only [evE, liE, lO, lU, snd] at h1); (try simp only [cmE] at h1))
  have hj : j < t.length := by omega
  have hjr : j < rs.length := by omega
  have hsu := leavesU_succ t j
  have hlj := leavesU_le t j
  have hkj := hk j hjr
  have hT2 : Tab m _ _ _ _ _ rs := hT1.keep fun b hb => hle.keep hb
  refine .loadSl (rs.map RD.s) j t.length rs[j].p rs[j].v.length rs[j].cap hj (by rw [List.getElem?_map, List.getElem?_eq_getElem hjr]; rfl) (fun g => hT2.out.reads g) (.env (by (try simp only [liE, lO, lU, snd, aN]); rfl) (.chk (by ((try simp only [evE, liE, lO, lU, snd]); (try simp only [cmE])); omega) ?_))
  refine .join (fun us mm => ∃ (q : Option Addr) (cq : Nat), us = [.p q, .i (leavesU t (j + 1)).length, .i cq] ∧ m1.le mm ∧ NewQ m1 q ∧ Row mm 3 1 q cq (leavesU t (j + 1)).length (intsL (leavesU t (j + 1)))) (.ite (fun h2 => ?_) (fun h2 => ?_)) ?_
  · have hz : rs[j].v.length = 0 := by ((try simp only [evE, liE, lO, lU, snd] at h2); (try simp only [cmE] at h2)); omega
    have : hasKid t t.length j = false := hkj.1 (List.length_eq_zero_iff.1 hz)
    rw [this, if_neg (by simp)] at hsu
    rw [hsu]
    refine .alloc' fun b0 _ hb0 _ => .append (n := (leavesU t j).length) (kx := 1) (qx := some ⟨b0, 0, none⟩) (capx := 1) (news := [.int .i64 j]) elN hR (fun g => g.cells (j := 0) rfl rfl rfl) rfl (by simp [Value.oneCell']) (fun h => by cases h) (by simp [maxLen]; omega) (by omega) (fun q3 k3 m3 hr3 hk3 hq3 => .again rfl ⟨q3, k3, ?_, keep_new hle hnew hk3, hnew.next hle hq3, ?_⟩)
    · (simp only [evE, liE, lO, lU, snd, Sh.uss, Sh.us, atAddr, map_add0, List.append_nil]); rw [List.length_append]; rfl
    · rw [List.length_append, show intsL (leavesU t j ++ [(j : Int)]) = intsL (leavesU t j) ++ [.int .i64 j] from List.map_append]; exact hr3
  · have hz : rs[j].v ≠ [] := fun e => by rw [e] at h2; cases h2
    have : hasKid t t.length j = true := by
      cases h : hasKid t t.length j with
      | true => rfl
      | false => exact absurd (hkj.2 h) hz
    rw [this, if_pos rfl] at hsu
    rw [hsu]
    exact .again rfl ⟨q, cq, by (simp only [evE, liE, lO, lU, snd, Sh.uss, Sh.us, atAddr, map_add0, List.append_nil]), hle, hnew, hR⟩
  rintro _ m' _ ⟨q3, k3, rfl, hle3, hnew3, hR3⟩
  refine .env (by (try simp only [liE, lO, lU, snd, aN]); rfl) (.again rfl ⟨n - 1, by omega, q3, k3, j + 1, ?_, by omega, hle3, hnew3, hR3⟩)
  (simp only [evE, liE, lO, lU, snd, Sh.uss, Sh.us, atAddr, map_add0, List.append_nil]); rw [add_i64 j (by omega)]
theorem c_Leaves (p : Option Addr) (cp : Nat) (t : List ND) (hl : t.length < 2 ^ 62) (hn : ∀ x ∈ t, x.nm.length < 2 ^ 62) : FnM Tryd.prog n_tree_Leaves [slv p t.length cp] (fun R => Cells R p (ncells t)) fun v mq _ => ∃ q cq, v = .tuple #[slv q (leavesE t).1.length cq, .int .i64 (leavesE t).2] ∧ Row mq 3 1 q cq (leavesE t).1.length (intsL (leavesE t).1) := by
  refine FnM.of S_tree_Leaves mx [.p p, .i t.length, .i cp] rfl rfl fun c hp => .callV (c_treeCheck p cp t hl hn) (fun g => hp.mono g.R) (.env (by (try simp only [liE, lO, lU, snd, aN]); rfl) (.ite (fun h1 => .ret rfl ?_) (fun h1 => ?_))) <;> ((try simp only [evE, liE, lO, lU, snd] at h1); (try simp only [cmE] at h1))
  · unfold leavesE; rw [if_pos h1]; exact ⟨none, 0, rfl, Row.nil ..⟩
  unfold leavesE
  rw [if_neg (by simp [h1])]
  refine .callE (c_leaves p cp t h1) (fun g => hp.mono g.R) ?_
  rintro v mq m1 _ hle ⟨q, cq, rfl, hR⟩
  exact ⟨[.p q, .i (leavesL t).length, .i cq], uOk_of rfl, (slv_fresh ..).symm, .env (by (try simp only [liE, lO, lU, snd, aN]); rfl) (.ret rfl ⟨q, cq, rfl, Row.le hR hle⟩)⟩
theorem c_matrix (p : Option Addr) (cp : Nat) (rm : List IR) (hM : OkM rm) : RetP Tryd.prog n_sankoff_matrix [slv p rm.length cp] (fun R => RowsAt R p rm) (.bool true) := by
  have h1 := hM.pos
  have h2 := hM.most
  refine Fn.of S_sankoff_matrix mx [.p p, .i rm.length, .i cp] rfl rfl fun c hp => .chk (by ((try simp only [evE, liE, lO, lU, snd]); (try simp only [cmE])); omega) (.no (by ((try simp only [evE, liE, lO, lU, snd]); (try simp only [cmE])); omega) (.chk (by ((try simp only [evE, liE, lO, lU, snd]); (try simp only [cmE])); omega) (.no (by ((try simp only [evE, liE, lO, lU, snd]); (try simp only [cmE])); omega) (.chk (by ((try simp only [evE, liE, lO, lU, snd]); (try simp only [cmE])); omega) ?_))))
  refine .loop (fun n us _ => ∃ (e : Bool) (j : Nat), us = [.b e, .i j] ∧ n + j = rm.length) rm.length ⟨false, 0, rfl, rfl⟩ ?_
  rintro n _ m _ ⟨e, j, rfl, hn⟩
  refine .env (by (try simp only [liE, lO, lU, snd, aN]); rfl) (.ite (fun h3 => ?_) (fun h3 => .ret rfl rfl)) <;> ((try simp only [evE, liE, lO, lU, snd] at h3); (try simp only [cmE] at h3))
  have hj : j < rm.length := by omega
  have hrl := hM.row _ (List.getElem_mem hj)
  refine .loadSl (rm.map IR.v) j rm.length rm[j].p rm[j].l.length rm[j].cap hj (row_at rm j hj) (fun g => hp.1.mono g.R) (.env (by (try simp only [liE, lO, lU, snd, aN]); rfl) (.chk (by ((try simp only [evE, liE, lO, lU, snd]); (try simp only [cmE])); omega) (.chk (by ((try simp only [evE, liE, lO, lU, snd]); (try simp only [cmE])); omega) (.no (by ((try simp only [evE, liE, lO, lU, snd]); (try simp only [cmE])); omega) (.chk (by ((try simp only [evE, liE, lO, lU, snd]); (try simp only [cmE])); omega) ?_)))))
  refine .loop (fun n us _ => ∃ (e : Bool) (i : Nat), us = [.b e, .i i] ∧ n + i = rm[j].l.length) rm[j].l.length ⟨e, 0, rfl, rfl⟩ ?_
  rintro n2 _ m2 _ ⟨e, i, rfl, hn2⟩
  refine .env (by (try simp only [liE, lO, lU, snd, aN]); rfl) (.ite (fun h4 => ?_) (fun h4 => .again rfl ⟨n - 1, by omega, e, j + 1, ?_, by omega⟩)) <;> ((try simp only [evE, liE, lO, lU, snd] at h4); (try simp only [cmE] at h4))
  · have hi : i < rm[j].l.length := by omega
    have hx := hM.at' _ (List.getElem_mem hj) _ (List.getElem_mem hi)
    refine .elem1 (.int .i64 rm[j].l[i]) (intsL rm[j].l) i rm[j].l.length rfl rfl hi (fun g => (hp.2 _ (List.getElem_mem hj)).mono g.R) (intsL_get _ i hi) (.env (by (try simp only [liE, lO, lU, snd, aN]); rfl) (.no ?_ (.again rfl ⟨n2 - 1, by omega, e, i + 1, ?_, by omega⟩)))
    · show (bif decide (rm[j].l[i] < -1) then true else decide (rm[j].l[i] > 1073741824)) = false
      rw [decide_eq_false (by omega), decide_eq_false (by omega)]; rfl
    · (simp only [evE, liE, lO, lU, snd, Sh.uss, Sh.us, atAddr, map_add0, List.append_nil]); rw [add_i64 i (by omega)]
  · (simp only [evE, liE, lO, lU, snd, Sh.uss, Sh.us, atAddr, map_add0, List.append_nil]); rw [add_i64 j (by omega)]
structure OkS (t : List ND) (k : Nat) (ss : List Int) : Prop where
  len : ss.length = (leavesL t).length
  at' : ∀ s ∈ ss, -1 ≤ s ∧ s < k
structure ProbAt (R : Mv) (p pm : Option Addr) (t : List ND) (rm : List IR) : Prop where
  t : Cells R p (ncells t)
  m : RowsAt R pm rm
theorem ProbAt.mono {R S : Mv} {p pm : Option Addr} {t : List ND} {rm : List IR} (h : ProbAt R p pm t rm) (hle : R.le S) : ProbAt S p pm t rm := ⟨h.t.mono hle, h.m.mono hle⟩
theorem leavesE_ok {t : List ND} (h : treeE t = 0) : leavesE t = (leavesL t, 0) := by unfold leavesE; rw [if_neg (by simp [h])]
theorem c_sankCheck (p pm ps : Option Addr) (cp cm cs : Nat) (t : List ND) (rm : List IR) (ss : List Int) (hE : treeE t = 0) (hn : ∀ x ∈ t, x.nm.length < 2 ^ 62) (hM : OkM rm) (hS : OkS t rm.length ss) :
    RetP Tryd.prog n_sankoff_Check [slv p t.length cp, slv pm rm.length cm, slv ps ss.length cs] (fun R => ProbAt R p pm t rm ∧ Cells R ps (intsL ss)) (.int .i64 0) := by
  obtain ⟨h0, h63, hpar⟩ := treeE_ok hE
  have hL := c_Leaves p cp t (by omega) hn
  rw [leavesE_ok hE] at hL
  have hlen := hS.len
  have hll : (leavesL t).length ≤ t.length := leavesU_le t t.length
  have hm12 := hM.most
  refine Fn.of S_sankoff_Check mx [.p p, .i t.length, .i cp, .p pm, .i rm.length, .i cm, .p ps, .i ss.length, .i cs] rfl rfl fun c hp => .callE hL (fun g => hp.1.t.mono g.R) ?_
  rintro v mq m1 _ hle ⟨q, cq, rfl, hR⟩
  refine ⟨[.p q, .i (leavesL t).length, .i cq, .i 0], uOk_of rfl, (tab_fresh _ _ _ _ _ _).symm, .env (by (try simp only [liE, lO, lU, snd, aN]); rfl) (.no rfl (.callV (c_matrix pm cm rm hM) (fun g => hp.1.m.mono g.R) (.env (by (try simp only [liE, lO, lU, snd, aN]); rfl) (.no rfl (.chk (by ((try simp only [evE, liE, lO, lU, snd]); (try simp only [cmE])); omega) (.chk (by ((try simp only [evE, liE, lO, lU, snd]); (try simp only [cmE])); omega) (.no (by ((try simp only [evE, liE, lO, lU, snd]); (try simp only [cmE])); omega) (.chk (by ((try simp only [evE, liE, lO, lU, snd]); (try simp only [cmE])); omega) ?_))))))))⟩
  refine .loop (fun n us _ => ∃ (e : Int) (j : Nat), us = [.i e, .i j] ∧ n + j = ss.length) ss.length ⟨0, 0, rfl, rfl⟩ ?_
  rintro n _ m _ ⟨e, j, rfl, hnj⟩
  refine .env (by (try simp only [liE, lO, lU, snd, aN]); rfl) (.ite (fun h3 => ?_) (fun h3 => .ret rfl rfl)) <;> ((try simp only [evE, liE, lO, lU, snd] at h3); (try simp only [cmE] at h3))
  have hj : j < ss.length := by omega
  have hs := hS.at' _ (List.getElem_mem hj)
  refine .elem1 (.int .i64 ss[j]) (intsL ss) j ss.length rfl rfl hj (fun g => hp.2.mono g.R) (intsL_get _ j hj) (.env (by (try simp only [liE, lO, lU, snd, aN]); rfl) (.no (by ((try simp only [evE, liE, lO, lU, snd]); (try simp only [cmE])); omega) (.chk (by ((try simp only [evE, liE, lO, lU, snd]); (try simp only [cmE])); omega) (.no (by ((try simp only [evE, liE, lO, lU, snd]); (try simp only [cmE])); omega) (.again rfl ⟨n - 1, by omega, e, j + 1, ?_, by omega⟩)))))
  (simp only [evE, liE, lO, lU, snd, Sh.uss, Sh.us, atAddr, map_add0, List.append_nil]); rw [add_i64 j (by omega)]
def boxS (b : Nat) (e : TypeId) (v : Value) : Mem := Mem.emp.upd b (box e v)
theorem c_backwards (p : Option Addr) (cp : Nat) (t : List ND) : FnM Tryd.prog n_sankoff_backwards [slv p t.length cp] (fun _ => True) fun v mq _ => ∃ b e, v = .func (.func n_sankoff_backwards_1) #[] #[.pointer (some ⟨b, 0, none⟩)] ∧ mq = boxS b e (slv p t.length cp) :=
  FnM.of S_sankoff_backwards mx [.p p, .i t.length, .i cp] rfl rfl fun c _ => .alloc fun b => .retL rfl fun g => ⟨b, _, rfl, rfl⟩
theorem it_backwards (p : Option Addr) (cp N : Nat) (hN : N ≤ 63) (b : Nat) (e : TypeId) : Iter Tryd.prog n_sankoff_backwards_1 #[.pointer (some ⟨b, 0, none⟩)] (fun w => Mem.emp.mv.le (Mv.of w)) (HW.mem (boxS b e (slv p N cp))) ((List.range N).map fun i => [Value.int .i64 ((N - 1 - i : Nat) : Int)]) := by
  refine Iter.of S_sankoff_backwards_1 mx [.p (some ⟨b, 0, none⟩)] (fun yv => rfl) (fun yv h => by simp [Sh.eats, Sh.eat, eatV, eatP, h]) ?_
  intro yv J E hyv hy hpre h hw hJ hdj
  have be : boxS b e (slv p N cp) b = some (box e (slv p N cp)) := Mem.upd_same ..
  generalize boxS b e (slv p N cp) = m at *
  have ld : ∀ {c : Cx} {ρ : Env} {k : Tree} {A : List (List U → HW → Prop)}, ρ.ptr 1 = some ⟨b, 0, none⟩ → DenM Tryd.prog (REnd ((List.range N).map fun i => [Value.int .i64 ((N - 1 - i : Nat) : Int)]).length J E) (fun _ _ _ => False) k [] (ρ ++ [.p p, .i N, .i cp]) c m A → DenM Tryd.prog (REnd ((List.range N).map fun i => [Value.int .i64 ((N - 1 - i : Nat) : Int)]).length J E) (fun _ _ _ => False) (.load 1 (.lit 0) [.sl] [] k) [] ρ c m A := fun {c ρ k A} hp hk => .loadS [slv p N cp] 0 p N cp rfl rfl (fun g i x hx => ⟨b, 0, hp, by rw [vw_mem g be, Nat.zero_add]; simpa [box] using hx⟩) hk
  refine ld rfl (.env (by (try simp only [liE, lO, lU, snd, aN]); rfl) (.chk (by ((try simp only [evE, liE, lO, lU, snd]); (try simp only [cmE])); omega) ?_))
  refine .loopY (fun n us m' hT => ∃ a : Nat, a ≤ N ∧ n = N - a ∧ us = [.i (a : Int)] ∧ m = m' ∧ J a hT) N ⟨0, Nat.zero_le _, rfl, rfl, rfl, hJ⟩ ?_
  rintro n us m' hX _ ⟨a, ha, rfl, rfl, rfl, hq⟩ hwX
  refine .env (by (try simp only [liE, lO, lU, snd, aN]); rfl) (.ite (fun h1 => ?_) (fun h1 => .stop (.inl ?_))) <;> ((try simp only [evE, liE, lO, lU, snd] at h1); (try simp only [cmE] at h1))
  · have ha : a < N := by omega
    refine ld rfl (.env (by (try simp only [liE, lO, lU, snd, aN]); rfl) (.chk (by ((try simp only [evE, liE, lO, lU, snd]); (try simp only [cmE])); omega) (.yield hy (q := a) (x := [.int .i64 ((N - 1 - a : Nat) : Int)]) hq (by rw [List.getElem?_map, List.getElem?_range ha]; rfl) (fun hX' hw' hJ' => .no rfl (.againY rfl ⟨N - (a + 1), by omega, a + 1, by omega, rfl, ?_, rfl, hJ'⟩)) (fun hX' hE => .yes rfl (.stop (.inr hE))) rfl ?_)))
    · (simp only [evE, liE, lO, lU, snd, Sh.uss, Sh.us, atAddr, map_add0, List.append_nil]); rw [add_i64 a (by omega)]
    · show [Value.int .i64 (ar .sub .i64 (ar .sub .i64 (N : Int) 1) (a : Int))] = _
      rw [subI (a := (N : Int)) (b := 1) (by omega) (by omega), subI (by omega) (by omega)]
      congr 2; omega
  · rw [List.length_map, List.length_range]
    rw [show N = a by omega]; exact hq
end Go.Proofs.YtkhcfbdjmpodbaaDoor
/- Layer 23: the table of costs; the least of some costs; step, least, root. -/
namespace Go.Sy
open Go Go.RowKit
def oI : Option Int → Int
  | none => -1
  | some x => x
theorem oI_none {o : Option Int} (h : ∀ x, o = some x → 0 ≤ x) : oI o = -1 ↔ o = none := by
  cases o with
  | none => simp [oI]
  | some x => have := h x rfl; simp [oI]; omega
def firstO (f : Nat → Option Int) : Nat → Int
  | 0 => -1
  | n + 1 => match leastO f n, f n with
    | none, none => firstO f n
    | none, some _ => n
    | some _, none => firstO f n
    | some a, some b => if b < a then n else firstO f n
structure FlatOf (N K : Nat) (fl : List Int) (T : Nat → Nat → Option Int) : Prop where
  len : fl.length = N * 12
  at' : ∀ v s, v < N → s < K → fl[v * 12 + s]? = some (oI (T v s))
def updT (T : Nat → Nat → Option Int) (v s : Nat) (x : Option Int) : Nat → Nat → Option Int := fun v' s' => if v' = v ∧ s' = s then x else T v' s'
theorem FlatOf.set {N K : Nat} {fl : List Int} {T : Nat → Nat → Option Int} (h : FlatOf N K fl T) (hK : K ≤ 12) {v s : Nat} (hv : v < N) (hs : s < K) (x : Option Int) : FlatOf N K (fl.set (v * 12 + s) (oI x)) (updT T v s x) := by
  refine ⟨by rw [List.length_set]; exact h.len, fun v' s' hv' hs' => ?_⟩
  rw [List.getElem?_set]
  unfold updT
  have := h.len
  by_cases e : v * 12 + s = v' * 12 + s'
  · rw [if_pos e, if_pos (by omega), if_pos (by omega)]
  · rw [if_neg e, if_neg (by omega)]; exact h.at' v' s' hv' hs'
theorem FlatOf.congr {N K : Nat} {fl : List Int} {T T' : Nat → Nat → Option Int} (h : FlatOf N K fl T) (he : ∀ v s, v < N → s < K → T v s = T' v s) : FlatOf N K fl T' := ⟨h.len, fun v s hv hs => by rw [← he v s hv hs]; exact h.at' v s hv hs⟩
section
variable {P : Program} {c : Cx} {L : List Nat} {ρ : Env} {blks : List Blk} {m : Mem} {R : Value → HW → Prop} {Dn : Nat → List U → HW → Prop} {A : List (List U → HW → Prop)}
theorem DenM.loadAll {i : Nat} {sh : List Sh} {k : Tree} (us : List U) (p : Option Addr) (xs : List Value) (hp : ρ.ptr i = p) (hc : Good c L m → Cells (vw c L ρ blks m) p xs) (hl : 0 < xs.length) (hk : DenM P R Dn k L (ρ ++ us) c m A) (hus : Sh.eats sh us = some [] := by rfl) (hv : SV.dens L (ρ ++ us) (Sh.freshs sh ρ.length).1 = xs := by rfl) :
    DenM P R Dn (.load i (.lit 0) sh blks k) L ρ c m A := .loadC us p xs 0 hp rfl hus hc hl (fun q v h => by rw [hv] at h; rw [Nat.zero_add]; exact h) hk
theorem DenM.loadFl {i : Nat} {I J len : IT} {k : Tree} {N K : Nat} {fl : List Int} {T : Nat → Nat → Option Int} (v s : Nat) (hF : FlatOf N K fl T) (hK : K ≤ 12) (hv : v < N) (hs : s < K) (hw : Good c L m → Cells (vw c L ρ blks m) (ρ.ptr i) (intsL fl)) (hk : DenM P R Dn k L (ρ ++ [.i (oI (T v s))]) c m A) (hI : I.eval ρ = (v : Int) := by rfl) (hJ : J.eval ρ = (s : Int) := by rfl) (hn : len.eval ρ = (N : Int) := by rfl) :
    DenM P R Dn (.chk (.pick (.cmp .geq I (.lit 0)) (.pick (.cmp .lss I len) (.some i) (.lit false)) (.lit false)) (.chk (.pick (.cmp .geq (.off I 12 (.lit 0)) (.lit 0)) (.pick (.cmp .geq J (.lit 0)) (.pick (.cmp .lss J (.lit 12)) (.some i) (.lit false)) (.lit false)) (.lit false)) (.load i (.off J 1 (.off I 12 (.lit 0))) [.int .i64] blks k))) L ρ c m A := fun g => by
  have hl := hF.len
  obtain ⟨b, o, hpe⟩ := (hw g).some (i := v * 12 + s) (by rw [intsL_len]; omega)
  have h1 : (BT.pick (.cmp .geq I (.lit 0)) (.pick (.cmp .lss I len) (.some i) (.lit false)) (.lit false)).eval ρ = true := by
    simp only [BT.eval, IT.eval, hI, hn, hpe, cm, pick_and]; simp; omega
  have h2 : (BT.pick (.cmp .geq (.off I 12 (.lit 0)) (.lit 0)) (.pick (.cmp .geq J (.lit 0)) (.pick (.cmp .lss J (.lit 12)) (.some i) (.lit false)) (.lit false)) (.lit false)).eval ρ = true := by
    simp only [BT.eval, IT.eval, hI, hJ, hpe, cm, pick_and]; simp; omega
  have hx : (intsL fl)[v * 12 + s]? = some (.int .i64 (oI (T v s))) := by unfold intsL; rw [List.getElem?_map, hF.at' v s hv hs]; rfl
  exact DenM.chk h1 (.chk h2 (.load1 (.int .i64 (oI (T v s))) (ρ.ptr i) (intsL fl) (v * 12 + s) rfl (by simp only [IT.eval, hI, hJ]; simp) hw hx hk rfl (by
    have e1 := getElem_env ρ [.i (oI (T v s))] 0
    rw [Nat.add_zero] at e1
    simp only [Sh.freshs, Sh.fresh, SV.dens, SV.den, IT.eval, Env.int, lU]
    rw [e1]; rfl))) g
theorem DenM.loadF0 {i : Nat} {J len : IT} {k : Tree} {N K : Nat} {fl : List Int} {T : Nat → Nat → Option Int} (s : Nat) (hF : FlatOf N K fl T) (hK : K ≤ 12) (hv : 0 < N) (hs : s < K) (hw : Good c L m → Cells (vw c L ρ blks m) (ρ.ptr i) (intsL fl)) (hk : DenM P R Dn k L (ρ ++ [.i (oI (T 0 s))]) c m A) (hJ : J.eval ρ = (s : Int) := by rfl) (hn : len.eval ρ = (N : Int) := by rfl) :
    DenM P R Dn (.chk (.pick (.cmp .lss (.lit 0) len) (.some i) (.lit false)) (.chk (.pick (.cmp .geq J (.lit 0)) (.pick (.cmp .lss J (.lit 12)) (.some i) (.lit false)) (.lit false)) (.load i (.off J 1 (.lit 0)) [.int .i64] blks k))) L ρ c m A := fun g => by
  have hl := hF.len
  obtain ⟨b, o, hpe⟩ := (hw g).some (i := 0) (by rw [intsL_len]; omega)
  have h1 : (BT.pick (.cmp .lss (.lit 0) len) (.some i) (.lit false)).eval ρ = true := by
    simp only [BT.eval, IT.eval, hn, hpe, cm, pick_and]; simp; omega
  have h2 : (BT.pick (.cmp .geq J (.lit 0)) (.pick (.cmp .lss J (.lit 12)) (.some i) (.lit false)) (.lit false)).eval ρ = true := by
    simp only [BT.eval, IT.eval, hJ, hpe, cm, pick_and]; simp; omega
  have hx : (intsL fl)[s]? = some (.int .i64 (oI (T 0 s))) := by
    have := hF.at' 0 s hv hs
    rw [Nat.zero_mul, Nat.zero_add] at this
    unfold intsL; rw [List.getElem?_map, this]; rfl
  exact DenM.chk h1 (.chk h2 (.load1 (.int .i64 (oI (T 0 s))) (ρ.ptr i) (intsL fl) s rfl (by simp only [IT.eval, hJ]; simp) hw hx hk rfl (by
    have e1 := getElem_env ρ [.i (oI (T 0 s))] 0
    rw [Nat.add_zero] at e1
    simp only [Sh.freshs, Sh.fresh, SV.dens, SV.den, IT.eval, Env.int, lU]
    rw [e1]; rfl))) g
end
def mAt (rm : List IR) (a b : Nat) : Int := labAt (rm[a]?.map (·.l) |>.getD []) b
theorem mAt_get {rm : List IR} {a b : Nat} (ha : a < rm.length) : mAt rm a b = labAt rm[a].l b := by unfold mAt; rw [List.getElem?_eq_getElem ha]; rfl
theorem OkM.mAt {rm : List IR} (h : OkM rm) (a b : Nat) : 0 ≤ mAt rm a b ∧ mAt rm a b ≤ 1073741824 := by
  unfold Go.Sy.mAt
  cases ha : rm[a]? with
  | none => exact ⟨Int.le_refl 0, by show (0 : Int) ≤ 1073741824; decide⟩
  | some r =>
    show 0 ≤ labAt r.l b ∧ labAt r.l b ≤ 1073741824
    unfold labAt
    cases hb : r.l[b]? with
    | none => exact ⟨by decide, by decide⟩
    | some x => exact h.at' r (List.mem_of_getElem? ha) x (List.mem_of_getElem? hb)
end Go.Sy
namespace Go.Proofs.YtkhcfbdjmpodbaaDoor
open Go Go.Sy Go.RowKit
theorem c_best (p pm pk : Option Addr) (N cp km nk ck K : Nat) (fv : Value) (f : Nat → Option Int) (Kp : Mv → Prop) (hm : ∀ {R S : Mv}, Kp R → R.le S → Kp S) (h1 : fv.oneCell' = true) (hK : K ≤ 12) (hpos : ∀ s, s < K → ∀ x, f s = some x → 0 ≤ x)
    (hf : ∀ s : Nat, s < K → FnV Tryd.prog fv [.int .i64 s] Kp fun v _ _ => v = .int .i64 (oI (f s))) :
    RetP Tryd.prog n__sankoff_problem__best [.agg #[slv p N cp, slv pm K km, slv pk nk ck], fv] Kp (.tuple #[.int .i64 (oI (leastO f K)), .int .i64 (firstO f K)]) := by
  refine Fn.of S__sankoff_problem__best mx [.p p, .i N, .i cp, .p pm, .i K, .i km, .p pk, .i nk, .i ck, .v fv] (by simp [Sh.eats, Sh.eat, eatS, eatV, h1]) rfl fun c hp => .alloc fun b0 => .chk (by ((try simp only [evE, liE, lO, lU, snd]); (try simp only [cmE])); omega) ?_
  refine .loop (fun n us _ => ∃ j : Nat, j ≤ K ∧ us = [.i (oI (leastO f j)), .i (firstO f j), .i j] ∧ n = K - j) K ⟨0, Nat.zero_le _, rfl, rfl⟩ ?_
  rintro n _ m _ ⟨j, hj, rfl, rfl⟩
  refine .env (by (try simp only [liE, lO, lU, snd, aN]); rfl) (.ite (fun h2 => ?_) (fun h2 => .ret rfl (by rw [show j = K by ((try simp only [evE, liE, lO, lU, snd] at h2); (try simp only [cmE] at h2)); omega]; rfl))) <;> ((try simp only [evE, liE, lO, lU, snd] at h2); (try simp only [cmE] at h2))
  have hj : j < K := by omega
  have hp1 := hpos j hj
  have hl0 : ∀ x, leastO f j = some x → 0 ≤ x := fun x hx => by
    obtain ⟨b, hb, e⟩ := leastO_at hx
    exact hpos b (by omega) x e
  have e1 : leastO f (j + 1) = match leastO f j, f j with | none, x => x | some a, none => some a | some a, some b => some (if b < a then b else a) := rfl
  have e2 : firstO f (j + 1) = match leastO f j, f j with | none, none => firstO f j | none, some _ => (j : Int) | some _, none => firstO f j | some a, some b => if b < a then (j : Int) else firstO f j := rfl
  refine .callvR (r := .int .i64 (oI (f j))) (hf j hj) (fun g => hm hp g.R) (fun m' _ => .env (by (try simp only [liE, lO, lU, snd, aN]); rfl) (.ite (fun h3 => ?_) (fun h3 => ?_)))
  · have h3' : leastO f j = none := (oI_none hl0).1 (by ((try simp only [evE, liE, lO, lU, snd] at h3); (try simp only [cmE] at h3)); exact h3)
    rw [h3'] at e1 e2
    refine .join (fun us _ => us = [.i (oI (leastO f (j + 1))), .i (firstO f (j + 1))]) (.ite (fun h4 => .again rfl ?_) (fun h4 => .again rfl ?_)) ?_
    · replace h4 : (bif cm .neq (oI (f j)) (-1) then true else false) = true := h4
      cases hfj : f j with
      | none => rw [hfj] at h4; cases h4
      | some x => rw [e1, e2, hfj]; (simp only [evE, liE, lO, lU, snd, Sh.uss, Sh.us, atAddr, map_add0, List.append_nil]) <;> rfl
    · replace h4 : (bif cm .neq (oI (f j)) (-1) then true else false) = false := h4
      cases hfj : f j with
      | none => rw [e1, e2, hfj, h3']; (simp only [evE, liE, lO, lU, snd, Sh.uss, Sh.us, atAddr, map_add0, List.append_nil]) <;> rfl
      | some x =>
        rw [hfj] at h4 hp1
        have := hp1 x rfl
        rw [show cm .neq (oI (some x)) (-1) = true by simp [cm, oI]; omega] at h4
        cases h4
    rintro _ m2 _ rfl
    refine .env (by (try simp only [liE, lO, lU, snd, aN]); rfl) (.again rfl ⟨K - (j + 1), by omega, j + 1, by omega, ?_, rfl⟩)
    (simp only [evE, liE, lO, lU, snd, Sh.uss, Sh.us, atAddr, map_add0, List.append_nil]); rw [add_i64 j (by omega)]
  · cases hls : leastO f j with
    | none => rw [hls] at h3; cases h3
    | some a =>
      rw [hls] at e1 e2
      refine .ite (fun h4 => ?_) (fun h4 => ?_)
      · replace h4 : cm .neq (oI (f j)) (-1) = true := h4
        cases hfj : f j with
        | none => rw [hfj] at h4; cases h4
        | some x =>
          rw [hfj] at e1 e2
          dsimp only at e1 e2
          refine .join (fun us _ => us = [.i (oI (leastO f (j + 1))), .i (firstO f (j + 1))]) (.ite (fun h5 => .again rfl ?_) (fun h5 => .again rfl ?_)) ?_
          · replace h5 : cm .lss x a = true := h5
            have h5' : x < a := by simpa [cm] using h5
            rw [e1, e2, if_pos h5', if_pos h5']; (simp only [evE, liE, lO, lU, snd, Sh.uss, Sh.us, atAddr, map_add0, List.append_nil]) <;> rfl
          · replace h5 : cm .lss x a = false := h5
            have h5' : ¬ x < a := by simpa [cm] using h5
            rw [e1, e2, if_neg h5', if_neg h5']; (simp only [evE, liE, lO, lU, snd, Sh.uss, Sh.us, atAddr, map_add0, List.append_nil]) <;> rfl
          rintro _ m2 _ rfl
          refine .env (by (try simp only [liE, lO, lU, snd, aN]); rfl) (.again rfl ⟨K - (j + 1), by omega, j + 1, by omega, ?_, rfl⟩)
          (simp only [evE, liE, lO, lU, snd, Sh.uss, Sh.us, atAddr, map_add0, List.append_nil]); rw [add_i64 j (by omega)]
      · replace h4 : cm .neq (oI (f j)) (-1) = false := h4
        cases hfj : f j with
        | some x =>
          rw [hfj] at h4 hp1
          have := hp1 x rfl
          rw [show cm .neq (oI (some x)) (-1) = true by simp [cm, oI]; omega] at h4
          cases h4
        | none =>
          rw [hfj] at e1 e2
          refine .again rfl ⟨K - (j + 1), by omega, j + 1, by omega, ?_, rfl⟩
          rw [e1, e2]
          (simp only [evE, liE, lO, lU, snd, Sh.uss, Sh.us, atAddr, map_add0, List.append_nil]); rw [add_i64 j (by omega)]
structure CostAt (R : Mv) (pm pk : Option Addr) (rm : List IR) (fl : List Int) : Prop where
  m : RowsAt R pm rm
  k : Cells R pk (intsL fl)
theorem CostAt.mono {R S : Mv} {pm pk : Option Addr} {rm : List IR} {fl : List Int} (h : CostAt R pm pk rm fl) (hle : R.le S) : CostAt S pm pk rm fl := ⟨h.m.mono hle, h.k.mono hle⟩
def NumT (T : Nat → Nat → Option Int) : Prop := ∀ v s x, T v s = some x → 0 ≤ x ∧ x ≤ 1099511627776
def stepF (rm : List IR) (T : Nat → Nat → Option Int) (v a b : Nat) : Option Int := (T v b).map (mAt rm a b + ·)
theorem c_step (p pm pk : Option Addr) (n0 cp km N ck : Nat) (rm : List IR) (fl : List Int) (T : Nat → Nat → Option Int) (hM : OkM rm) (hF : FlatOf N rm.length fl T) (hT : NumT T) (v a b : Nat) (hv : v < N) (ha : a < rm.length) (hb : b < rm.length) :
    RetP Tryd.prog n__sankoff_problem__step [.agg #[slv p n0 cp, slv pm rm.length km, slv pk N ck], .int .i64 v, .int .i64 a, .int .i64 b] (fun R => CostAt R pm pk rm fl) (.int .i64 (oI (stepF rm T v a b))) := by
  have hra := hM.row _ (List.getElem_mem ha)
  have hxa := mAt_get (b := b) ha
  have hx := hM.mAt a b
  refine Fn.of S__sankoff_problem__step mx [.p p, .i n0, .i cp, .p pm, .i rm.length, .i km, .p pk, .i N, .i ck, .i v, .i a, .i b] rfl rfl fun c hp => .alloc fun b0 => ?_
  have ht : (intsL rm[a].l)[b]? = some (.int .i64 (mAt rm a b)) := by rw [intsL_at _ b (by omega), hxa]
  refine .loadSl (rm.map IR.v) a rm.length rm[a].p rm[a].l.length rm[a].cap ha (row_at rm a ha) (fun g => hp.m.1.mono g.R) (.env (by (try simp only [liE, lO, lU, snd, aN]); rfl) (.elem1 (.int .i64 (mAt rm a b)) (intsL rm[a].l) b rm[a].l.length rfl rfl (by omega) (fun g => (hp.m.2 _ (List.getElem_mem ha)).mono g.R) ht (.env (by (try simp only [liE, lO, lU, snd, aN]); rfl) (.no (by ((try simp only [evE, liE, lO, lU, snd]); (try simp only [cmE])); omega) ?_))))
  refine .loadFl v b hF hM.most hv hb (fun g => hp.k.mono g.R) (.env (by (try simp only [liE, lO, lU, snd, aN]); rfl) (.ite (fun h1 => .ret rfl ?_) (fun h1 => ?_))) <;> ((try simp only [evE, liE, lO, lU, snd] at h1); (try simp only [cmE] at h1))
  · have : T v b = none := (oI_none fun x hx => (hT v b x hx).1).1 h1
    unfold stepF; rw [this]; rfl
  cases hc : T v b with
  | none => rw [hc] at h1; exact absurd rfl h1
  | some x =>
    have hx2 := hT v b x hc
    refine .loadSl (rm.map IR.v) a rm.length rm[a].p rm[a].l.length rm[a].cap ha (row_at rm a ha) (fun g => hp.m.1.mono g.R) (.env (by (try simp only [liE, lO, lU, snd, aN]); rfl) (.elem1 (.int .i64 (mAt rm a b)) (intsL rm[a].l) b rm[a].l.length rfl rfl (by omega) (fun g => (hp.m.2 _ (List.getElem_mem ha)).mono g.R) ht (.env (by (try simp only [liE, lO, lU, snd, aN]); rfl) ?_)))
    refine .loadFl v b hF hM.most hv hb (fun g => hp.k.mono g.R) (.env (by (try simp only [liE, lO, lU, snd, aN]); rfl) (.ret rfl ?_))
    rw [hc]
    show Value.int .i64 (ar .add .i64 (mAt rm a b) x) = _
    rw [addI (by omega) (by omega)]
    unfold stepF; rw [hc]; rfl
def LeastAt (R : Mv) (b0 b1 b2 : Nat) (p pm pk : Option Addr) (n0 cp km N ck : Nat) (rm : List IR) (fl : List Int) (v a : Nat) : Prop :=
  Cells R (some ⟨b0, 0, none⟩) [slv p n0 cp, slv pm rm.length km, slv pk N ck] ∧ Cells R (some ⟨b1, 0, none⟩) [.int .i64 v] ∧ Cells R (some ⟨b2, 0, none⟩) [.int .i64 a] ∧ CostAt R pm pk rm fl
theorem LeastAt.mono {R S : Mv} {b0 b1 b2 : Nat} {p pm pk : Option Addr} {n0 cp km N ck : Nat} {rm : List IR} {fl : List Int} {v a : Nat} (h : LeastAt R b0 b1 b2 p pm pk n0 cp km N ck rm fl v a) (hle : R.le S) : LeastAt S b0 b1 b2 p pm pk n0 cp km N ck rm fl v a :=
  ⟨h.1.mono hle, h.2.1.mono hle, h.2.2.1.mono hle, h.2.2.2.mono hle⟩
theorem c_least1 (b0 b1 b2 : Nat) (p pm pk : Option Addr) (n0 cp km N ck : Nat) (rm : List IR) (fl : List Int) (T : Nat → Nat → Option Int) (hM : OkM rm) (hF : FlatOf N rm.length fl T) (hT : NumT T) (v a b : Nat) (hv : v < N) (ha : a < rm.length) (hb : b < rm.length) :
    FnM Tryd.prog n__sankoff_problem__least_1 [.int .i64 b, .pointer (some ⟨b0, 0, none⟩), .pointer (some ⟨b1, 0, none⟩), .pointer (some ⟨b2, 0, none⟩)] (fun R => LeastAt R b0 b1 b2 p pm pk n0 cp km N ck rm fl v a) fun r _ _ => r = .int .i64 (oI (stepF rm T v a b)) := by
  refine Fn.of S__sankoff_problem__least_1 mx [.i b, .p (some ⟨b0, 0, none⟩), .p (some ⟨b1, 0, none⟩), .p (some ⟨b2, 0, none⟩)] rfl rfl fun c hp => ?_
  refine .loadAll [.p p, .i n0, .i cp, .p pm, .i rm.length, .i km, .p pk, .i N, .i ck] _ _ rfl (fun g => hp.1.mono g.R) (by simp) (.env (by (try simp only [liE, lO, lU, snd, aN]); rfl) ?_)
  refine .loadAll [.i v] _ _ rfl (fun g => hp.2.1.mono g.R) (by simp) (.env (by (try simp only [liE, lO, lU, snd, aN]); rfl) ?_)
  refine .loadAll [.i a] _ _ rfl (fun g => hp.2.2.1.mono g.R) (by simp) (.env (by (try simp only [liE, lO, lU, snd, aN]); rfl) ?_)
  exact .callV (c_step p pm pk n0 cp km N ck rm fl T hM hF hT v a b hv ha hb) (fun g => hp.2.2.2.mono g.R) (.env (by (try simp only [liE, lO, lU, snd, aN]); rfl) (.ret rfl rfl))
theorem c_least (p pm pk : Option Addr) (n0 cp km N ck : Nat) (rm : List IR) (fl : List Int) (T : Nat → Nat → Option Int) (hM : OkM rm) (hF : FlatOf N rm.length fl T) (hT : NumT T) (v a : Nat) (hv : v < N) (ha : a < rm.length) :
    RetP Tryd.prog n__sankoff_problem__least [.agg #[slv p n0 cp, slv pm rm.length km, slv pk N ck], .int .i64 v, .int .i64 a] (fun R => CostAt R pm pk rm fl) (.tuple #[.int .i64 (oI (leastO (stepF rm T v a) rm.length)), .int .i64 (firstO (stepF rm T v a) rm.length)]) := by
  refine Fn.of S__sankoff_problem__least mx [.p p, .i n0, .i cp, .p pm, .i rm.length, .i km, .p pk, .i N, .i ck, .i v, .i a] rfl rfl fun c hp => .alloc fun b0 => .alloc fun b1 => .alloc fun b2 => ?_
  have hb := c_best p pm pk n0 cp km N ck rm.length (.func (.func n__sankoff_problem__least_1) #[] #[.pointer (some ⟨b0, 0, none⟩), .pointer (some ⟨b1, 0, none⟩), .pointer (some ⟨b2, 0, none⟩)]) (stepF rm T v a) (fun R => LeastAt R b0 b1 b2 p pm pk n0 cp km N ck rm fl v a) (fun h hle => h.mono hle) rfl hM.most (fun s _ x hx => by
    unfold stepF at hx
    cases h : T v s with
    | none => rw [h] at hx; cases hx
    | some z => rw [h] at hx; cases hx; have := hT v s z h; have := hM.mAt a s; show 0 ≤ mAt rm a s + z; omega) fun s hs => .of (args := [.int .i64 s]) (cap := [.pointer (some ⟨b0, 0, none⟩), .pointer (some ⟨b1, 0, none⟩), .pointer (some ⟨b2, 0, none⟩)]) (by kernel_rfl) (c_least1 b0 b1 b2 p pm pk n0 cp km N ck rm fl T hM hF hT v a s hv ha hs)
  exact .callV hb (fun g => ⟨g.cells (j := 0) rfl rfl rfl, g.cells (j := 1) rfl rfl rfl, g.cells (j := 2) rfl rfl rfl, hp.mono g.R⟩) (.env (by (try simp only [liE, lO, lU, snd, aN]); rfl) (.ret rfl rfl))
theorem c_root1 (b0 : Nat) (p pm pk : Option Addr) (n0 cp km N ck : Nat) (rm : List IR) (fl : List Int) (T : Nat → Nat → Option Int) (hM : OkM rm) (hF : FlatOf N rm.length fl T) (s : Nat) (hN : 0 < N) (hs : s < rm.length) :
    FnM Tryd.prog n__sankoff_problem__root_1 [.int .i64 s, .pointer (some ⟨b0, 0, none⟩)] (fun R => Cells R (some ⟨b0, 0, none⟩) [slv p n0 cp, slv pm rm.length km, slv pk N ck] ∧ CostAt R pm pk rm fl) fun r _ _ => r = .int .i64 (oI (T 0 s)) := by
  refine Fn.of S__sankoff_problem__root_1 mx [.i s, .p (some ⟨b0, 0, none⟩)] rfl rfl fun c hp => .chk rfl (.loadS [slv p n0 cp, slv pm rm.length km, slv pk N ck] 2 pk N ck rfl rfl (fun g => hp.1.mono g.R) (.env (by (try simp only [liE, lO, lU, snd, aN]); rfl) ?_))
  exact .loadF0 s hF hM.most hN hs (fun g => hp.2.k.mono g.R) (.env (by (try simp only [liE, lO, lU, snd, aN]); rfl) (.ret rfl rfl))
theorem c_root (p pm pk : Option Addr) (n0 cp km N ck : Nat) (rm : List IR) (fl : List Int) (T : Nat → Nat → Option Int) (hM : OkM rm) (hF : FlatOf N rm.length fl T) (hT : NumT T) (hN : 0 < N) :
    RetP Tryd.prog n__sankoff_problem__root [.agg #[slv p n0 cp, slv pm rm.length km, slv pk N ck]] (fun R => CostAt R pm pk rm fl) (.tuple #[.int .i64 (oI (leastO (T 0) rm.length)), .int .i64 (firstO (T 0) rm.length)]) := by
  refine Fn.of S__sankoff_problem__root mx [.p p, .i n0, .i cp, .p pm, .i rm.length, .i km, .p pk, .i N, .i ck] rfl rfl fun c hp => .alloc fun b0 => ?_
  have hb := c_best p pm pk n0 cp km N ck rm.length (.func (.func n__sankoff_problem__root_1) #[] #[.pointer (some ⟨b0, 0, none⟩)]) (T 0) (fun R => Cells R (some ⟨b0, 0, none⟩) [slv p n0 cp, slv pm rm.length km, slv pk N ck] ∧ CostAt R pm pk rm fl) (fun h hle => ⟨h.1.mono hle, h.2.mono hle⟩) rfl hM.most (fun s _ x hx => (hT 0 s x hx).1)
    fun s hs => .of (args := [.int .i64 s]) (cap := [.pointer (some ⟨b0, 0, none⟩)]) (by kernel_rfl) (c_root1 b0 p pm pk n0 cp km N ck rm fl T hM hF s hN hs)
  exact .callV hb (fun g => ⟨g.cells (j := 0) rfl rfl rfl, hp.mono g.R⟩) (.env (by (try simp only [liE, lO, lU, snd, aN]); rfl) (.ret rfl rfl))
end Go.Proofs.YtkhcfbdjmpodbaaDoor
/- Layer 23: the table is filled. -/
namespace Go.Sy
open Go Go.RowKit
section
variable {P : Program} {c : Cx} {L : List Nat} {ρ : Env} {blks : List Blk} {m : Mem} {R : Value → HW → Prop} {Dn : Nat → List U → HW → Prop} {A : List (List U → HW → Prop)}
theorem DenM.storeFl {i : Nat} {I J len : IT} {x : SV} {k : Tree} {e : TypeId} {q : Option Addr} {cap N : Nat} {fl : List Int} (v s : Nat) (y : Int) (hv : v < N) (hs : s < 12) (hR : Row m e 12 q cap N (intsL fl)) (hx : x.den L ρ = .int .i64 y)
    (hk : ∀ m' g, q = some ⟨g, 0, none⟩ → Row m' e 12 q cap N (intsL (fl.set (v * 12 + s) y)) → (∀ b, b ≠ g → m' b = m b) → DenM P R Dn k L ρ c m' A) (hp : ρ.ptr i = q := by rfl) (hI : I.eval ρ = (v : Int) := by rfl) (hJ : J.eval ρ = (s : Int) := by rfl) (hn : len.eval ρ = (N : Int) := by rfl) :
    DenM P R Dn (.chk (.pick (.cmp .geq I (.lit 0)) (.pick (.cmp .lss I len) (.some i) (.lit false)) (.lit false)) (.chk (.pick (.cmp .geq (.off I 12 (.lit 0)) (.lit 0)) (.pick (.cmp .geq J (.lit 0)) (.pick (.cmp .lss J (.lit 12)) (.some i) (.lit false)) (.lit false)) (.lit false)) (.store false i (.off J 1 (.off I 12 (.lit 0))) [x] blks k))) L ρ c m A := by
  rcases hR.2 with ⟨_, h, _⟩ | ⟨g, cur, hq, hg, h1, h2, h3, h4⟩
  · omega
  · subst hq
    have hlen : (intsL fl).length = N * 12 := hR.1
    refine .chk ?_ (.chk ?_ (.store g (v * 12 + s) cur e rfl ?_ hg (by simp; omega) (hk _ g rfl ⟨by rw [intsL_len, List.length_set, ← intsL_len]; exact hlen, .inr ⟨g, _, rfl, Mem.upd_same _ _ _, h1, h2, ?_, ?_⟩⟩ fun b hb => Mem.upd_other _ _ hb)))
    · simp only [BT.eval, IT.eval, hI, hn, hp, cm, pick_and]; simp; omega
    · simp only [BT.eval, IT.eval, hI, hJ, hp, cm, pick_and]; simp; omega
    · simp only [atAddr, hp, IT.eval, hI, hJ, Option.map_some, addr_add]
      rw [show (((0 : Int) + (v : Int) * ((12 : Nat) : Int)) + (s : Int) * ((1 : Nat) : Int)).toNat = v * 12 + s by omega]; simp
    · simp only [putAt, SV.dens, List.size_toArray, List.length_append, List.length_take, List.length_drop, List.length_cons, List.length_nil, Array.length_toList]; omega
    · have hput : putAt cur.toList (v * 12 + s) (SV.dens L ρ [x]) = cur.toList.set (v * 12 + s) (x.den L ρ) := by
        unfold putAt
        rw [List.set_eq_take_append_cons_drop, if_pos (by simp; omega)]
        simp [SV.dens]
      rw [hput, List.take_set, h4, hx]
      exact intsL_set ..
end
def oneB (lv ss : List Int) (i v s : Nat) : Bool := decide (labAt lv i = v) && (decide (labAt ss i ≠ -1) && decide (labAt ss i ≠ s))
def blockB (lv ss : List Int) (k v s : Nat) : Bool := (List.range k).any fun i => oneB lv ss i v s
theorem blockB_succ (lv ss : List Int) (k v s : Nat) : blockB lv ss (k + 1) v s = (blockB lv ss k v s || oneB lv ss k v s) := by
  unfold blockB
  rw [List.range_succ, List.any_append]; simp
def initP (lv ss : List Int) (k j v s : Nat) : Option Int := if (blockB lv ss k v s || (decide (s < j) && oneB lv ss k v s)) = true then none else some 0
def initT (lv ss : List Int) (k v s : Nat) : Option Int := if blockB lv ss k v s = true then none else some 0
theorem initT_or (lv ss : List Int) (k v s : Nat) : initT lv ss k v s = none ∨ initT lv ss k v s = some 0 := by unfold initT; split <;> simp
theorem initP_zero (lv ss : List Int) (k v s : Nat) : initP lv ss k 0 v s = initT lv ss k v s := by unfold initP initT; simp
theorem initP_end (lv ss : List Int) {k K v s : Nat} (hs : s < K) : initP lv ss k K v s = initT lv ss (k + 1) v s := by
  unfold initP initT
  rw [blockB_succ, decide_eq_true hs, Bool.true_and]
theorem initP_yes {lv ss : List Int} {k j v0 : Nat} (h : labAt lv k = v0) (hc : labAt ss k ≠ -1 ∧ labAt ss k ≠ j) (v s : Nat) : updT (initP lv ss k j) v0 j none v s = initP lv ss k (j + 1) v s := by
  unfold updT
  by_cases e : v = v0 ∧ s = j
  · rw [if_pos e]
    unfold initP
    rw [if_pos]
    obtain ⟨rfl, rfl⟩ := e
    have : oneB lv ss k v s = true := by unfold oneB; rw [decide_eq_true h, decide_eq_true hc.1, decide_eq_true hc.2]; rfl
    rw [this, decide_eq_true (by omega)]; simp
  · rw [if_neg e]
    unfold initP
    by_cases e2 : s = j
    · have : oneB lv ss k v s = false := by
        unfold oneB
        rw [decide_eq_false (fun h' => e ⟨by omega, e2⟩)]; rfl
      rw [this]; simp
    · rw [show decide (s < j + 1) = decide (s < j) from decide_eq_decide.2 (by omega)]
theorem initP_no {lv ss : List Int} {k j : Nat} (hc : ¬ (labAt ss k ≠ -1 ∧ labAt ss k ≠ j)) (v s : Nat) : initP lv ss k j v s = initP lv ss k (j + 1) v s := by
  unfold initP
  by_cases e2 : s = j
  · have : oneB lv ss k v s = false := by
      unfold oneB
      subst e2
      cases h : decide (labAt ss k ≠ -1) && decide (labAt ss k ≠ s) with
      | false => simp
      | true =>
        rw [Bool.and_eq_true, decide_eq_true_eq, decide_eq_true_eq] at h
        exact absurd h hc
    rw [this]; simp
  · rw [show decide (s < j + 1) = decide (s < j) from decide_eq_decide.2 (by omega)]
def parN (t : List ND) (v : Nat) : Nat := (t[v]?.map ND.par |>.getD 0).toNat
def tabT (t : List ND) (rm : List IR) (ss : List Int) (i : Nat) : Nat → Nat → Option Int := runT t.length rm.length (parN t) (mAt rm) (initT (leavesL t) ss (leavesL t).length) i
def mixT (C : Nat → Nat → Option Int) (rm : List IR) (u v j : Nat) : Nat → Nat → Option Int := fun u' s => if u' = u ∧ s < j then addO (C u' s) (underO rm.length (mAt rm) C v s) else C u' s
theorem mixT_succ (C : Nat → Nat → Option Int) (rm : List IR) (u v j u' s : Nat) : updT (mixT C rm u v j) u j (addO (C u j) (underO rm.length (mAt rm) C v j)) u' s = mixT C rm u v (j + 1) u' s := by
  unfold updT mixT
  by_cases e : u' = u ∧ s = j
  · obtain ⟨rfl, rfl⟩ := e
    rw [if_pos ⟨rfl, rfl⟩, if_pos ⟨rfl, by omega⟩]
  · rw [if_neg e]
    by_cases e2 : u' = u ∧ s < j
    · rw [if_pos e2, if_pos ⟨e2.1, by omega⟩]
    · rw [if_neg e2, if_neg (by rintro ⟨h1, h2⟩; rcases Nat.lt_or_ge s j with h | h; exact e2 ⟨h1, h⟩; exact e ⟨h1, by omega⟩)]
theorem under_num {rm : List IR} (hM : OkM rm) {C : Nat → Nat → Option Int} {B : Int} (hC : ∀ v s x, C v s = some x → 0 ≤ x ∧ x ≤ B) {v s : Nat} {x : Int} (h : underO rm.length (mAt rm) C v s = some x) : 0 ≤ x ∧ x ≤ B + 1073741824 := by
  obtain ⟨b, _, e⟩ := leastO_at h
  cases hc : C v b with
  | none => rw [hc] at e; cases e
  | some z =>
    rw [hc] at e
    simp only [Option.map_some, Option.some.injEq] at e
    have := hC v b z hc
    have := hM.mAt s b
    omega
theorem addO_num {a b : Option Int} {A B x : Int} (ha : ∀ x, a = some x → 0 ≤ x ∧ x ≤ A) (hb : ∀ x, b = some x → 0 ≤ x ∧ x ≤ B) (h : addO a b = some x) : 0 ≤ x ∧ x ≤ A + B := by
  cases a with
  | none => cases h
  | some y =>
    cases b with
    | none => cases h
    | some z =>
      simp only [addO, Option.some.injEq] at h
      have := ha y rfl
      have := hb z rfl
      omega
def bigB : Nat → Int
  | 0 => 0
  | n + 1 => bigB n + (bigB n + 1073741824)
theorem tabT_num (t : List ND) {rm : List IR} (hM : OkM rm) (ss : List Int) : ∀ (i v s : Nat) (x : Int), tabT t rm ss i v s = some x → 0 ≤ x ∧ x ≤ bigB i
  | 0, v, s, x, h => by
    rcases initT_or (leavesL t) ss (leavesL t).length v s with e | e
    · rw [show tabT t rm ss 0 v s = none from e] at h; cases h
    · rw [show tabT t rm ss 0 v s = some 0 from e] at h; cases h; exact ⟨Int.le_refl 0, Int.le_refl 0⟩
  | i + 1, v, s, x, h => by
    have ih := tabT_num t hM ss i
    have hb : 0 ≤ bigB i := by
      have : ∀ n, 0 ≤ bigB n := fun n => by
        induction n with
        | zero => exact Int.le_refl 0
        | succ n ih => unfold bigB; omega
      exact this i
    replace h : stepT rm.length (parN t) (mAt rm) (tabT t rm ss i) (t.length - 1 - i) v s = some x := h
    unfold stepT at h
    unfold bigB
    split at h
    · exact addO_num (fun x hx => ih _ _ x hx) (fun x hx => under_num hM ih hx) h
    · have := ih v s x h; omega
theorem bigB_le {i : Nat} (h : i ≤ 7) : bigB i ≤ 137438953472 := by
  have : i = 0 ∨ i = 1 ∨ i = 2 ∨ i = 3 ∨ i = 4 ∨ i = 5 ∨ i = 6 ∨ i = 7 := by omega
  rcases this with rfl | rfl | rfl | rfl | rfl | rfl | rfl | rfl <;> simp [bigB]
theorem madeN (v : Value) {z : Array Value} (hz : 0 < z.size) (hv : ∀ i, i < z.size → z[i]! = v) (n : Nat) : (Go.madeCells z n).toList = List.replicate n v := by
  unfold Go.madeCells
  rw [Array.toList_map]
  refine List.eq_replicate_iff.2 ⟨by simp, fun x hx => ?_⟩
  obtain ⟨i, _, rfl⟩ := List.mem_map.1 hx
  exact hv _ (Nat.mod_lt _ hz)
end Go.Sy
/- Layer 23: solved. -/
namespace Go.Proofs.YtkhcfbdjmpodbaaDoor
open Go Go.Sy Go.RowKit
theorem row_info : (Tryd.prog.info? 127).map (fun i => (i.zero, i.size, i.bytes)) = some (some (.agg #[.int .i64 0, .int .i64 0, .int .i64 0, .int .i64 0, .int .i64 0, .int .i64 0, .int .i64 0, .int .i64 0, .int .i64 0, .int .i64 0, .int .i64 0, .int .i64 0]), 12, 96) := by kernel_rfl
theorem parN_at {t : List ND} (hE : treeE t = 0) {v : Nat} (hv : v < t.length) (h0 : 0 < v) : t[v].par = (parN t v : Int) ∧ parN t v < v := by
  obtain ⟨_, _, hpar⟩ := treeE_ok hE
  obtain ⟨h1, h2⟩ := hpar v hv
  have e : parN t v = t[v].par.toNat := by unfold parN; rw [List.getElem?_eq_getElem hv]; rfl
  have := h2 h0
  omega
structure SolQ (mq : Mem) (g : Nat) (t : List ND) (rm : List IR) (ss : List Int) (fl : List Int) : Prop where
  row : Row mq 127 12 (some ⟨g, 0, none⟩) t.length t.length (intsL fl)
  at' : FlatOf t.length rm.length fl (tabT t rm ss (t.length - 1))
set_option maxHeartbeats 4000000 in
theorem c_solved (p pm ps : Option Addr) (cp km cs : Nat) (t : List ND) (rm : List IR) (ss : List Int) (hE : treeE t = 0) (h8 : t.length ≤ 8) (hn : ∀ x ∈ t, x.nm.length < 2 ^ 62) (hM : OkM rm) (hS : OkS t rm.length ss) :
    FnM Tryd.prog n_sankoff_solved [slv p t.length cp, slv pm rm.length km, slv ps ss.length cs] (fun R => ProbAt R p pm t rm ∧ Cells R ps (intsL ss)) fun v mq _ => ∃ g fl, v = .tuple #[.agg #[slv p t.length cp, slv pm rm.length km, slv (some ⟨g, 0, none⟩) t.length t.length], .int .i64 0] ∧ SolQ mq g t rm ss fl := by
  obtain ⟨h0, h63, hpar⟩ := treeE_ok hE
  have hL := c_Leaves p cp t (by omega) hn
  rw [leavesE_ok hE] at hL
  have hll : (leavesL t).length ≤ t.length := leavesU_le t t.length
  have hlen := hS.len
  have hm12 := hM.most
  refine FnM.of S_sankoff_solved mx [.p p, .i t.length, .i cp, .p pm, .i rm.length, .i km, .p ps, .i ss.length, .i cs] rfl rfl fun c hp => .alloc fun b0 => .alloc fun b1 => .alloc fun b2 => ?_
  refine .callV (c_sankCheck p pm ps cp km cs t rm ss hE hn hM hS) (fun g => ⟨hp.1.mono g.R, hp.2.mono g.R⟩) (.env (by (try simp only [liE, lO, lU, snd, aN]); rfl) (.no rfl (.chk (by ((try simp only [evE, liE, lO, lU, snd]); (try simp only [cmE])); omega) ?_)))
  refine .makeN (t := 119) (z := _) t.length (intsL (List.replicate (t.length * 12) 0)) (by kernel_rfl) row_info ?_ (by omega) (by simp [maxLen]; omega) (fun g _ hrow => ?_)
  · unfold intsL
    rw [List.map_replicate]
    exact madeN (.int .i64 0) (by decide) (fun i hi => by
      have hi : i < 12 := hi
      rcases (by omega : i = 0 ∨ i = 1 ∨ i = 2 ∨ i = 3 ∨ i = 4 ∨ i = 5 ∨ i = 6 ∨ i = 7 ∨ i = 8 ∨ i = 9 ∨ i = 10 ∨ i = 11) with rfl | rfl | rfl | rfl | rfl | rfl | rfl | rfl | rfl | rfl | rfl | rfl <;> rfl) _
  generalize Mem.upd _ g _ = m0 at hrow ⊢
  have hF0 : FlatOf t.length rm.length (List.replicate (t.length * 12) 0) (initT (leavesL t) ss 0) := ⟨List.length_replicate, fun v s hv hs => by rw [List.getElem?_replicate, if_pos (by omega)]; rfl⟩
  refine .env (by (try simp only [liE, lO, lU, snd, aN]); rfl) (.alloc fun b3 => .callE hL (fun g => hp.1.t.mono g.R) ?_)
  rintro v mq m1 hle1 hle2 ⟨q, cq, rfl, hR⟩
  refine ⟨[.p q, .i (leavesL t).length, .i cq, .i 0], uOk_of rfl, (tab_fresh _ _ _ _ _ _).symm, ?_⟩
  replace hrow := Row.le hrow hle1
  replace hR := Row.le hR hle2
  clear hle1 hle2
  refine .env (by (try simp only [liE, lO, lU, snd, aN]); rfl) (.chk (by ((try simp only [evE, liE, lO, lU, snd]); (try simp only [cmE])); omega) ?_)
  refine .loop (fun n us mm => ∃ (k : Nat) (fl : List Int), us = [.i k] ∧ n + k = (leavesL t).length ∧ Row mm 127 12 (some ⟨g, 0, none⟩) t.length t.length (intsL fl) ∧ FlatOf t.length rm.length fl (initT (leavesL t) ss k) ∧ Row mm 3 1 q cq (leavesL t).length (intsL (leavesL t))) (leavesL t).length ⟨0, _, rfl, rfl, hrow, hF0, hR⟩ ?_
  clear hrow hF0 hR
  rintro n _ m _ ⟨k, fl, rfl, hnk, hrow, hF, hR⟩
  refine .env (by (try simp only [liE, lO, lU, snd, aN]); rfl) (.ite (fun h1 => ?_) (fun h1 => ?_)) <;> ((try simp only [evE, liE, lO, lU, snd] at h1); (try simp only [cmE] at h1))
  · have hk : k < (leavesL t).length := by omega
    obtain ⟨v, hv, hvt⟩ := leavesL_mem (List.getElem_mem hk)
    have hlab : labAt (leavesL t) k = v := by rw [labAt_get hk, hv]
    refine .elem1 (.int .i64 v) (intsL (leavesL t)) k (leavesL t).length rfl rfl hk (fun g => hR.reads g) (by rw [intsL_get _ k hk, hv]) (.env (by (try simp only [liE, lO, lU, snd, aN]); rfl) (.chk (by ((try simp only [evE, liE, lO, lU, snd]); (try simp only [cmE])); omega) ?_))
    refine .loop (fun n us mm => ∃ (j : Nat) (fl : List Int), us = [.i j] ∧ n + j = rm.length ∧ Row mm 127 12 (some ⟨g, 0, none⟩) t.length t.length (intsL fl) ∧ FlatOf t.length rm.length fl (initP (leavesL t) ss k j) ∧ Row mm 3 1 q cq (leavesL t).length (intsL (leavesL t))) rm.length ⟨0, fl, rfl, rfl, hrow, hF.congr fun v s _ _ => (initP_zero ..).symm, hR⟩ ?_
    clear hrow hF hR
    rintro n2 _ m2 _ ⟨j, fl, rfl, hnj, hrow, hF, hR⟩
    refine .env (by (try simp only [liE, lO, lU, snd, aN]); rfl) (.ite (fun h2 => ?_) (fun h2 => .again rfl ⟨n - 1, by omega, k + 1, fl, ?_, by omega, hrow, hF.congr fun v s _ hs => by rw [show j = rm.length by ((try simp only [evE, liE, lO, lU, snd] at h2); (try simp only [cmE] at h2)); omega]; exact initP_end _ _ hs, hR⟩)) <;> ((try simp only [evE, liE, lO, lU, snd] at h2); (try simp only [cmE] at h2))
    · have hj : j < rm.length := by omega
      have hks : k < ss.length := by omega
      have ld := intsL_at ss k hks
      refine .join (fun us mm => us = [.b (decide (labAt ss k ≠ -1) && decide (labAt ss k ≠ j))] ∧ m2 = mm) (.elem1 (.int .i64 (labAt ss k)) (intsL ss) k ss.length rfl rfl hks (fun g => hp.2.mono g.R) ld (.env (by (try simp only [liE, lO, lU, snd, aN]); rfl) (.ite (fun h3 => ?_) (fun h3 => ?_)))) ?_
      · refine .elem1 (.int .i64 (labAt ss k)) (intsL ss) k ss.length rfl rfl hks (fun g => hp.2.mono g.R) ld (.env (by (try simp only [liE, lO, lU, snd, aN]); rfl) (.again rfl ⟨?_, rfl⟩))
        ((try simp only [evE, liE, lO, lU, snd] at h3); (try simp only [cmE] at h3))
        (simp only [evE, liE, lO, lU, snd, Sh.uss, Sh.us, atAddr, map_add0, List.append_nil])
        rw [decide_eq_true h3, Bool.true_and]
        show [U.b (cm .neq (labAt ss k) (j : Int))] = _
        congr 2
        rw [Bool.eq_iff_iff]; simp [cm]
      · ((try simp only [evE, liE, lO, lU, snd] at h3); (try simp only [cmE] at h3))
        refine .again rfl ⟨?_, rfl⟩
        (simp only [evE, liE, lO, lU, snd, Sh.uss, Sh.us, atAddr, map_add0, List.append_nil])
        rw [decide_eq_false (by omega)]; rfl
      rintro _ _ _ ⟨rfl, rfl⟩
      refine .env (by (try simp only [liE, lO, lU, snd, aN]); rfl) ?_
      refine .join (fun us mm => us = [] ∧ ∃ fl, Row mm 127 12 (some ⟨g, 0, none⟩) t.length t.length (intsL fl) ∧ FlatOf t.length rm.length fl (initP (leavesL t) ss k (j + 1)) ∧ Row mm 3 1 q cq (leavesL t).length (intsL (leavesL t))) (.ite (fun h3 => ?_) (fun h3 => ?_)) ?_
      · replace h3 : (decide (labAt ss k ≠ -1) && decide (labAt ss k ≠ j)) = true := h3
        rw [Bool.and_eq_true, decide_eq_true_eq, decide_eq_true_eq] at h3
        refine .storeFl v j (-1) hvt (by omega) hrow rfl (fun m3 g3 hg3 hr3 hs3 => .again rfl ⟨rfl, _, hr3, (hF.set hm12 hvt hj none).congr fun v' s' _ _ => initP_yes hlab h3 v' s', hR.keep fun b hb _ => hs3 b fun e => hR.apart hrow (by decide) b hb (by rw [hg3, e])⟩)
      · replace h3 : (decide (labAt ss k ≠ -1) && decide (labAt ss k ≠ j)) = false := h3
        refine .again rfl ⟨rfl, fl, hrow, hF.congr fun v' s' _ _ => initP_no (fun h => by rw [decide_eq_true h.1, decide_eq_true h.2] at h3; cases h3) v' s', hR⟩
      rintro _ m3 _ ⟨rfl, fl3, hr3, hF3, hR3⟩
      refine .env (by (try simp only [liE, lO, lU, snd, aN]); rfl) (.again rfl ⟨n2 - 1, by omega, j + 1, fl3, ?_, by omega, hr3, hF3, hR3⟩)
      (simp only [evE, liE, lO, lU, snd, Sh.uss, Sh.us, atAddr, map_add0, List.append_nil]); rw [add_i64 j (by omega)]
    · (simp only [evE, liE, lO, lU, snd, Sh.uss, Sh.us, atAddr, map_add0, List.append_nil]); rw [add_i64 k (by omega)]
  have hk : k = (leavesL t).length := by omega
  subst hk
  refine .callM (c_backwards p cp t) rfl rfl (fun _ => trivial) ?_
  rintro v mb hfr ⟨bx, ex, rfl, rfl⟩
  refine ⟨[.v _], ⟨_, rfl, rfl⟩, rfl, .env (by (try simp only [liE, lO, lU, snd, aN]); rfl) ?_⟩
  refine .join (fun us mm => us = [] ∧ ∃ fl, SolQ mm g t rm ss fl) ?_ ?_
  · refine .range n_sankoff_backwards_1 _ ((List.range t.length).map fun i => [U.i ((t.length - 1 - i : Nat) : Int)]) (fun w => Mem.emp.mv.le (Mv.of w)) (boxS bx ex (slv p t.length cp)) m
      (fun k us mm => us = [] ∧ k < t.length ∧ ∃ fl, Row mm 127 12 (some ⟨g, 0, none⟩) t.length t.length (intsL fl) ∧ FlatOf t.length rm.length fl (tabT t rm ss k)) (fun n us mm => us = [] ∧ ∃ fl, SolQ mm g t rm ss fl)
      rfl (by kernel_rfl) rfl ?_ ?_ ?_ ⟨rfl, h0, fl, hrow, hF⟩ ?_ ?_ ?_ ?_
    · intro k hk
      cases hq : boxS bx ex (slv p t.length cp) k with
      | none => rfl
      | some o => exact absurd (hfr k (by rw [hq]; simp)).1 hk
    · intro ux hx
      obtain ⟨z, _, rfl⟩ := List.mem_map.1 hx; rfl
    · rw [List.map_map]
      exact it_backwards p cp t.length h63 bx ex
    · rintro k us m' w _ hw
      exact Mem.mv_le (fun b o h => by cases h) hw
    · rintro i us ux m' _ hx ⟨rfl, hi, fl, hrow, hF⟩
      rw [List.getElem?_map, List.getElem?_range hi] at hx
      cases hx
      refine .env (by (try simp only [liE, lO, lU, snd, aN]); rfl) (.ite (fun h2 => ?_) (fun h2 => ?_)) <;> ((try simp only [evE, liE, lO, lU, snd] at h2); (try simp only [cmE] at h2))
      · refine .leave (.inr ⟨by decide, rfl, fl, hrow, ?_⟩)
        rw [show t.length - 1 = i by omega]; exact hF
      have hv0 : 0 < t.length - 1 - i := by omega
      have hvt : t.length - 1 - i < t.length := by omega
      generalize hvd : t.length - 1 - i = v at hv0 hvt ⊢
      obtain ⟨hpe, hpl⟩ := parN_at hE hvt hv0
      have hCn := tabT_num t hM ss i
      have hB := bigB_le (i := i) (by omega)
      have hsucc : ∀ u s, s < rm.length → mixT (tabT t rm ss i) rm (parN t v) v rm.length u s = tabT t rm ss (i + 1) u s := fun u s hs => by
        show _ = Go.Sy.stepT rm.length (parN t) (mAt rm) (tabT t rm ss i) (t.length - 1 - i) u s
        unfold mixT Go.Sy.stepT
        rw [hvd]
        by_cases e : u = parN t v
        · rw [if_pos ⟨e, hs⟩, if_pos e]
        · rw [if_neg (fun h => e h.1), if_neg e]
      have hmix : ∀ j, NumT (mixT (tabT t rm ss i) rm (parN t v) v j) := fun j u s x hx => by
        unfold mixT at hx
        split at hx
        · have := addO_num (fun x hx => hCn _ _ x hx) (fun x hx => under_num hM hCn hx) hx
          omega
        · have := hCn u s x hx; omega
      refine .loadNP t v hvt (fun g => hp.1.t.mono g.R) ?_
      rw [hpe]
      generalize parN t v = up at *
      refine .env (by (try simp only [liE, lO, lU, snd, aN]); rfl) (.chk (by ((try simp only [evE, liE, lO, lU, snd]); (try simp only [cmE])); omega) ?_)
      refine .loop (fun n us mm => ∃ (j : Nat) (fl : List Int), us = [.i j] ∧ n + j = rm.length ∧ Row mm 127 12 (some ⟨g, 0, none⟩) t.length t.length (intsL fl) ∧ FlatOf t.length rm.length fl (mixT (tabT t rm ss i) rm up v j)) rm.length ⟨0, fl, rfl, rfl, hrow, hF.congr fun u s _ _ => by unfold mixT; rw [if_neg (by omega)]⟩ ?_
      clear hrow hF
      rintro n _ m2 _ ⟨j, fl, rfl, hnj, hrow, hF⟩
      refine .env (by (try simp only [liE, lO, lU, snd, aN]); rfl) (.ite (fun h3 => ?_) (fun h3 => ?_)) <;> ((try simp only [evE, liE, lO, lU, snd] at h3); (try simp only [cmE] at h3))
      · have hj : j < rm.length := by omega
        have hst : leastO (stepF rm (mixT (tabT t rm ss i) rm up v j) v j) rm.length = underO rm.length (mAt rm) (tabT t rm ss i) v j := by
          unfold underO
          congr 1
          funext b
          unfold stepF mixT
          rw [if_neg (by omega)]
        have hcl := c_least p pm (some ⟨g, 0, none⟩) t.length cp km t.length t.length rm fl _ hM hF (hmix j) v j hvt hj
        rw [hst] at hcl
        generalize firstO (stepF rm (mixT (tabT t rm ss i) rm up v j) v j) rm.length = fst at hcl
        have hCu : mixT (tabT t rm ss i) rm up v j up j = tabT t rm ss i up j := by unfold mixT; rw [if_neg (by omega)]
        have hms := mixT_succ (tabT t rm ss i) rm up v j
        have hun : ∀ x, underO rm.length (mAt rm) (tabT t rm ss i) v j = some x → 0 ≤ x ∧ x ≤ bigB i + 1073741824 := fun x hx => under_num hM hCn hx
        have hcu := hCn up j
        generalize underO rm.length (mAt rm) (tabT t rm ss i) v j = un at *
        refine .callV hcl (fun g => ⟨hp.1.m.mono g.R, hrow.reads g⟩) (.env (by (try simp only [liE, lO, lU, snd, aN]); rfl) ?_)
        refine .join (fun us mm => us = [.b (decide (addO (tabT t rm ss i up j) un = none))] ∧ m2 = mm) (.ite (fun h4 => ?_) (fun h4 => ?_)) ?_
        · ((try simp only [evE, liE, lO, lU, snd] at h4); (try simp only [cmE] at h4))
          have h4' : un = none := (oI_none fun x hx => (hun x hx).1).1 h4
          refine .again rfl ⟨?_, rfl⟩
          (simp only [evE, liE, lO, lU, snd, Sh.uss, Sh.us, atAddr, map_add0, List.append_nil])
          rw [h4']
          cases tabT t rm ss i up j <;> rfl
        · ((try simp only [evE, liE, lO, lU, snd] at h4); (try simp only [cmE] at h4))
          refine .loadFl up j hF hm12 (by omega) hj (fun g => hrow.reads g) (.env (by (try simp only [liE, lO, lU, snd, aN]); rfl) (.again rfl ⟨?_, rfl⟩))
          rw [hCu]
          (simp only [evE, liE, lO, lU, snd, Sh.uss, Sh.us, atAddr, map_add0, List.append_nil])
          cases hun' : un with
          | none => rw [hun'] at h4; exact absurd rfl h4
          | some y =>
            cases hx : tabT t rm ss i up j with
            | none => rfl
            | some x =>
              have := (hcu x hx).1
              show [U.b (cm .eql x (-1))] = [U.b false]
              rw [show cm .eql x (-1) = false by simp [cm]; omega]
        rintro _ _ _ ⟨rfl, rfl⟩
        refine .env (by (try simp only [liE, lO, lU, snd, aN]); rfl) ?_
        refine .join (fun us mm => us = [] ∧ ∃ fl, Row mm 127 12 (some ⟨g, 0, none⟩) t.length t.length (intsL fl) ∧ FlatOf t.length rm.length fl (mixT (tabT t rm ss i) rm up v (j + 1))) (.ite (fun h4 => ?_) (fun h4 => ?_)) ?_
        · replace h4 : decide (addO (tabT t rm ss i up j) un = none) = true := h4
          rw [decide_eq_true_eq] at h4
          rw [h4] at hms
          exact .storeFl up j (-1) (by omega) (by omega) hrow rfl (fun m3 g3 hg3 hr3 hs3 => .again rfl ⟨rfl, _, hr3, (hF.set hm12 (by omega) hj none).congr fun u s _ _ => hms u s⟩)
        · replace h4 : decide (addO (tabT t rm ss i up j) un = none) = false := h4
          rw [decide_eq_false_iff_not] at h4
          cases hx : tabT t rm ss i up j with
          | none => rw [hx] at h4; exact absurd rfl h4
          | some x =>
            cases hy : un with
            | none => rw [hx, hy] at h4; exact absurd rfl h4
            | some y =>
              have := hcu x hx
              have := hun y hy
              rw [hx, hy] at hms
              refine .loadFl up j hF hm12 (by omega) hj (fun g => hrow.reads g) ?_
              rw [hCu, hx]
              refine .env (by (try simp only [liE, lO, lU, snd, aN]); rfl) (.storeFl up j (x + y) (by omega) (by omega) hrow ?_ (fun m3 g3 hg3 hr3 hs3 => .again rfl ⟨rfl, _, hr3, (hF.set hm12 (by omega) hj (some (x + y))).congr fun u s _ _ => hms u s⟩))
              show Value.int .i64 (ar .add .i64 x y) = _
              rw [addI (by omega) (by omega)]
        rintro _ m3 _ ⟨rfl, fl3, hr3, hF3⟩
        refine .env (by (try simp only [liE, lO, lU, snd, aN]); rfl) (.again rfl ⟨n - 1, by omega, j + 1, fl3, ?_, by omega, hr3, hF3⟩)
        (simp only [evE, liE, lO, lU, snd, Sh.uss, Sh.us, atAddr, map_add0, List.append_nil]); rw [add_i64 j (by omega)]
      · refine .leave (.inl ⟨rfl, rfl, by omega, fl, hrow, hF.congr fun u s _ hs => ?_⟩)
        rw [show j = rm.length by omega]
        exact hsucc u s hs
    · rintro us m' _ ⟨_, hk, _⟩
      rw [List.length_map, List.length_range] at hk
      omega
    · rintro n us m' _ _ ⟨rfl, hq⟩
      exact .ite (fun _ => .again rfl ⟨rfl, hq⟩) (fun _ => .again rfl ⟨rfl, hq⟩)
  · rintro _ m' _ ⟨rfl, fl, hq⟩
    exact .env (by (try simp only [liE, lO, lU, snd, aN]); rfl) (.ret rfl ⟨g, fl, rfl, hq⟩)
end Go.Proofs.YtkhcfbdjmpodbaaDoor
/- Layer 23: possible, Roots, Min, Cost. -/
namespace Go.Sy
open Go Go.RowKit Go.Proofs.YtkhcfbdjmpodbaaDoor
theorem leavesL_nodup (t : List ND) : (leavesL t).Nodup := by
  unfold leavesL
  rw [List.Nodup, List.pairwise_map]
  exact (List.nodup_range.sublist List.filter_sublist).imp fun h e => h (by omega)
theorem labAt_inj {l : List Int} (h : l.Nodup) {i j : Nat} (hi : i < l.length) (hj : j < l.length) (e : labAt l i = labAt l j) : i = j := by
  rw [labAt_get hi, labAt_get hj] at e
  exact (List.getElem_inj h).1 e
def Fits (t : List ND) (ss : List Int) (a : Nat → Nat) : Prop := ∀ i, i < (leavesL t).length → ∀ v : Nat, labAt (leavesL t) i = v → labAt ss i = -1 ∨ labAt ss i = (a v : Int)
theorem init_fits {t : List ND} {ss : List Int} {a : Nat → Nat} (h : Fits t ss a) (v : Nat) : initT (leavesL t) ss (leavesL t).length v (a v) = some 0 := by
  unfold initT
  rw [if_neg]
  unfold blockB
  rw [List.any_eq_true]
  rintro ⟨i, hi, h2⟩
  rw [List.mem_range] at hi
  unfold oneB at h2
  simp only [Bool.and_eq_true, decide_eq_true_eq] at h2
  rcases h i hi v h2.1 with e | e
  · exact h2.2.1 e
  · exact h2.2.2 e
theorem fits_some {t : List ND} {K : Nat} {ss : List Int} (hS : OkS t K ss) (hK : 0 < K) : ∃ a : Nat → Nat, (∀ v, a v < K) ∧ Fits t ss a := by
  have h : ∀ v : Nat, ∃ s, s < K ∧ ∀ i, i < (leavesL t).length → labAt (leavesL t) i = v → labAt ss i = -1 ∨ labAt ss i = (s : Int) := fun v => by
    by_cases h : ∃ i, i < (leavesL t).length ∧ labAt (leavesL t) i = v ∧ labAt ss i ≠ -1
    · obtain ⟨i, h1, h2, h3⟩ := h
      have hl := hS.len
      have hs := hS.at' _ (List.getElem_mem (show i < ss.length by omega))
      rw [← labAt_get (by omega)] at hs
      refine ⟨(labAt ss i).toNat, by omega, fun j hj e => ?_⟩
      have : j = i := labAt_inj (leavesL_nodup t) hj h1 (by rw [e, h2])
      subst this
      exact .inr (by omega)
    · refine ⟨0, hK, fun i hi e => .inl ?_⟩
      exact Classical.byContradiction fun hne => h ⟨i, hi, e, hne⟩
  exact ⟨fun v => (h v).choose, fun v => (h v).choose_spec.1, fun i hi v e => (h v).choose_spec.2 i hi e⟩
theorem parN_lt {t : List ND} (hE : treeE t = 0) : ∀ v, 0 < v → v < t.length → parN t v < v := fun v h0 hv => by
  obtain ⟨_, _, hpar⟩ := treeE_ok hE
  obtain ⟨h1, h2⟩ := hpar v hv
  have e : parN t v = t[v].par.toNat := by unfold parN; rw [List.getElem?_eq_getElem hv]; rfl
  have := h2 h0
  omega
def rootO (t : List ND) (rm : List IR) (ss : List Int) : Option Int := leastO (tabT t rm ss (t.length - 1) 0) rm.length
def leastT (t : List ND) (rm : List IR) (ss : List Int) : Int := oI (rootO t rm ss)
def rootsU (t : List ND) (rm : List IR) (ss : List Int) (j : Nat) : List Int := ((List.range j).filter fun s => decide (oI (tabT t rm ss (t.length - 1) 0 s) = leastT t rm ss)).map fun (s : Nat) => (s : Int)
def rootsT (t : List ND) (rm : List IR) (ss : List Int) : List Int := rootsU t rm ss rm.length
theorem rootsU_succ (t : List ND) (rm : List IR) (ss : List Int) (j : Nat) : rootsU t rm ss (j + 1) = if oI (tabT t rm ss (t.length - 1) 0 j) = leastT t rm ss then rootsU t rm ss j ++ [(j : Int)] else rootsU t rm ss j := by
  unfold rootsU
  rw [List.range_succ, List.filter_append, List.map_append]
  by_cases h : oI (tabT t rm ss (t.length - 1) 0 j) = leastT t rm ss <;> simp [h]
theorem rootsU_le (t : List ND) (rm : List IR) (ss : List Int) (j : Nat) : (rootsU t rm ss j).length ≤ j := by
  unfold rootsU
  rw [List.length_map]
  have := List.length_filter_le (fun s => decide (oI (tabT t rm ss (t.length - 1) 0 s) = leastT t rm ss)) (List.range j)
  rwa [List.length_range] at this
theorem root_some {t : List ND} {rm : List IR} {ss : List Int} (hE : treeE t = 0) (hM : OkM rm) (hS : OkS t rm.length ss) : ∃ l, rootO t rm ss = some l := by
  obtain ⟨h0, h63, hpar⟩ := treeE_ok hE
  obtain ⟨a, ha, hf⟩ := fits_some hS hM.pos
  obtain ⟨l, h, _⟩ := sank_min (M := mAt rm) (init := initT (leavesL t) ss (leavesL t).length) h0 (parN_lt hE) (fun v _ => ha v) fun v _ => init_fits hf v
  exact ⟨l, h⟩
def upE (t : List ND) (rm : List IR) (all : List Int) : Nat → Int
  | 0 => 0
  | n + 1 => upE t rm all n + if n = 0 then 0 else mAt rm (labAt all (parN t n)).toNat (labAt all n).toNat
def changeE (t : List ND) (rm : List IR) (all : List Int) : Int := upE t rm all t.length
theorem upE_succ (t : List ND) (rm : List IR) (all : List Int) (n : Nat) : upE t rm all (n + 1) = upE t rm all n + if n = 0 then 0 else mAt rm (labAt all (parN t n)).toNat (labAt all n).toNat := rfl
theorem upE_bound (t : List ND) {rm : List IR} (hM : OkM rm) (all : List Int) (n : Nat) : 0 ≤ upE t rm all n ∧ upE t rm all n ≤ (n : Int) * 1073741824 := by
  induction n with
  | zero => exact ⟨Int.le_refl 0, by simp [upE]⟩
  | succ n ih =>
    have := hM.mAt (labAt all (parN t n)).toNat (labAt all n).toNat
    unfold upE
    split <;> omega
structure OkA (t : List ND) (k : Nat) (all : List Int) : Prop where
  len : all.length = t.length
  at' : ∀ s ∈ all, 0 ≤ s ∧ s < k
theorem least_le {t : List ND} {rm : List IR} {ss all : List Int} (hE : treeE t = 0) (hA : OkA t rm.length all) (hf : Fits t ss fun v => (labAt all v).toNat) : leastT t rm ss ≤ changeE t rm all := by
  obtain ⟨h0, h63, hpar⟩ := treeE_ok hE
  have hlt : ∀ v, v < t.length → (labAt all v).toNat < rm.length := fun v hv => by
    have := hA.at' _ (List.getElem_mem (show v < all.length by rw [hA.len]; exact hv))
    rw [← labAt_get (by rw [hA.len]; exact hv)] at this
    omega
  obtain ⟨l, h, hle⟩ := sank_min (M := mAt rm) (init := initT (leavesL t) ss (leavesL t).length) h0 (parN_lt hE) hlt fun v _ => init_fits hf v
  have hl : leastT t rm ss = l := by unfold leastT; rw [show rootO t rm ss = some l from h]; rfl
  have key : ∀ j, j < t.length → lastE t.length (parN t) (mAt rm) (fun v => (labAt all v).toNat) j + upE t rm all (t.length - j) = upE t rm all t.length := fun j => by
    induction j with
    | zero => intro _; simp [lastE]
    | succ j ih =>
      intro hj
      have ih := ih (by omega)
      rw [show t.length - j = (t.length - (j + 1)) + 1 by omega] at ih
      unfold lastE
      rw [upE_succ, if_neg (by omega)] at ih
      rw [show t.length - 1 - j = t.length - (j + 1) by omega]
      show lastE t.length (parN t) (mAt rm) (fun v => (labAt all v).toNat) j + mAt rm (labAt all (parN t (t.length - (j + 1)))).toNat (labAt all (t.length - (j + 1))).toNat + _ = _
      omega
  have hk := key (t.length - 1) (by omega)
  rw [show t.length - (t.length - 1) = 1 by omega] at hk
  have h1 : upE t rm all 1 = 0 := by simp [upE]
  rw [hl]
  unfold changeE
  omega
end Go.Sy
namespace Go.Proofs.YtkhcfbdjmpodbaaDoor
open Go Go.Sy Go.RowKit
theorem tab_num8 {t : List ND} {rm : List IR} (h8 : t.length ≤ 8) (hM : OkM rm) (ss : List Int) : NumT (tabT t rm ss (t.length - 1)) := fun v s x hx => by
  have := tabT_num t hM ss _ v s x hx
  have := bigB_le (i := t.length - 1) (by omega)
  omega
theorem least_bound {t : List ND} {rm : List IR} {ss : List Int} (hE : treeE t = 0) (h8 : t.length ≤ 8) (hM : OkM rm) (hS : OkS t rm.length ss) : 0 ≤ leastT t rm ss ∧ leastT t rm ss ≤ 1099511627776 := by
  obtain ⟨l, hl⟩ := root_some hE hM hS
  obtain ⟨b, _, e⟩ := leastO_at hl
  have := tab_num8 h8 hM ss 0 b l e
  unfold leastT; rw [hl]; exact this
section
variable (p pm ps : Option Addr) (cp km cs : Nat) (t : List ND) (rm : List IR) (ss : List Int) (hE : treeE t = 0) (h8 : t.length ≤ 8) (hn : ∀ x ∈ t, x.nm.length < 2 ^ 62) (hM : OkM rm) (hS : OkS t rm.length ss)
include hE h8 hn hM hS
theorem c_possible : FnM Tryd.prog n_sankoff_possible [slv p t.length cp, slv pm rm.length km, slv ps ss.length cs] (fun R => ProbAt R p pm t rm ∧ Cells R ps (intsL ss)) fun v mq _ => ∃ g fl, v = .tuple #[.agg #[slv p t.length cp, slv pm rm.length km, slv (some ⟨g, 0, none⟩) t.length t.length], .int .i64 0] ∧ SolQ mq g t rm ss fl := by
  obtain ⟨h0, h63, hpar⟩ := treeE_ok hE
  obtain ⟨l, hl⟩ := root_some hE hM hS
  refine FnM.of S_sankoff_possible mx [.p p, .i t.length, .i cp, .p pm, .i rm.length, .i km, .p ps, .i ss.length, .i cs] rfl rfl fun c hp => .alloc fun b0 => .callE (c_solved p pm ps cp km cs t rm ss hE h8 hn hM hS) (fun g => ⟨hp.1.mono g.R, hp.2.mono g.R⟩) ?_
  rintro v mq m1 _ hle ⟨g, fl, rfl, hQ⟩
  have hrow := Row.le hQ.row hle
  refine ⟨[.p p, .i t.length, .i cp, .p pm, .i rm.length, .i km, .p (some ⟨g, 0, none⟩), .i t.length, .i t.length, .i 0], uOk_of rfl, rfl, .env (by (try simp only [liE, lO, lU, snd, aN]); rfl) (.alloc fun b1 => .no rfl ?_)⟩
  have hb := least_bound hE h8 hM hS
  refine .callV (c_root p pm (some ⟨g, 0, none⟩) t.length cp km t.length t.length rm fl _ hM hQ.at' (tab_num8 h8 hM ss) h0) (fun g => ⟨hp.1.m.mono g.R, hrow.reads g⟩) (.env (by (try simp only [liE, lO, lU, snd, aN]); rfl) (.no ?_ (.ret rfl ⟨g, fl, rfl, hrow, hQ.at'⟩)))
  show cm .eql (leastT t rm ss) (-1) = false
  simp [cm]; omega
theorem c_Roots : FnM Tryd.prog n_sankoff_Roots [slv p t.length cp, slv pm rm.length km, slv ps ss.length cs] (fun R => ProbAt R p pm t rm ∧ Cells R ps (intsL ss)) fun v mq _ => ∃ q cq, v = .tuple #[slv q (rootsT t rm ss).length cq, .int .i64 0] ∧ Row mq 3 1 q cq (rootsT t rm ss).length (intsL (rootsT t rm ss)) := by
  obtain ⟨h0, h63, hpar⟩ := treeE_ok hE
  have hm12 := hM.most
  refine FnM.of S_sankoff_Roots mx [.p p, .i t.length, .i cp, .p pm, .i rm.length, .i km, .p ps, .i ss.length, .i cs] rfl rfl fun c hp => .callE (c_possible p pm ps cp km cs t rm ss hE h8 hn hM hS) (fun g => ⟨hp.1.mono g.R, hp.2.mono g.R⟩) ?_
  rintro v mq m1 _ hle ⟨g, fl, rfl, hQ⟩
  have hrow := Row.le hQ.row hle
  refine ⟨[.p p, .i t.length, .i cp, .p pm, .i rm.length, .i km, .p (some ⟨g, 0, none⟩), .i t.length, .i t.length, .i 0], uOk_of rfl, rfl, .env (by (try simp only [liE, lO, lU, snd, aN]); rfl) (.alloc fun b1 => .no rfl ?_)⟩
  refine .callV (c_root p pm (some ⟨g, 0, none⟩) t.length cp km t.length t.length rm fl _ hM hQ.at' (tab_num8 h8 hM ss) h0) (fun g => ⟨hp.1.m.mono g.R, hrow.reads g⟩) ?_
  have hlt : oI (leastO (tabT t rm ss (t.length - 1) 0) rm.length) = leastT t rm ss := rfl
  rw [hlt]
  generalize firstO (tabT t rm ss (t.length - 1) 0) rm.length = fst
  refine .env (by (try simp only [liE, lO, lU, snd, aN]); rfl) (.chk (by ((try simp only [evE, liE, lO, lU, snd]); (try simp only [cmE])); omega) ?_)
  refine .loop (fun n us mm => ∃ (q : Option Addr) (cq j : Nat), us = [.p q, .i (rootsU t rm ss j).length, .i cq, .i j] ∧ n + j = rm.length ∧ Row mm 127 12 (some ⟨g, 0, none⟩) t.length t.length (intsL fl) ∧ Row mm 3 1 q cq (rootsU t rm ss j).length (intsL (rootsU t rm ss j))) rm.length ⟨none, 0, 0, rfl, rfl, hrow, Row.nil ..⟩ ?_
  clear hrow
  rintro n _ m _ ⟨q, cq, j, rfl, hnj, hrow, hR⟩
  refine .env (by (try simp only [liE, lO, lU, snd, aN]); rfl) (.ite (fun h1 => ?_) (fun h1 => .ret rfl ⟨q, cq, by unfold rootsT; rw [show rm.length = j by ((try simp only [evE, liE, lO, lU, snd] at h1); (try simp only [cmE] at h1)); omega]; rfl, by unfold rootsT; rw [show rm.length = j by ((try simp only [evE, liE, lO, lU, snd] at h1); (try simp only [cmE] at h1)); omega]; exact hR⟩)) <;> ((try simp only [evE, liE, lO, lU, snd] at h1); (try simp only [cmE] at h1))
  have hj : j < rm.length := by omega
  have hsu := rootsU_succ t rm ss j
  have hle := rootsU_le t rm ss j
  refine .loadF0 j hQ.at' hm12 h0 hj (fun g => hrow.reads g) (.env (by (try simp only [liE, lO, lU, snd, aN]); rfl) ?_)
  refine .join (fun us mm => ∃ (q : Option Addr) (cq : Nat), us = [.p q, .i (rootsU t rm ss (j + 1)).length, .i cq] ∧ Row mm 127 12 (some ⟨g, 0, none⟩) t.length t.length (intsL fl) ∧ Row mm 3 1 q cq (rootsU t rm ss (j + 1)).length (intsL (rootsU t rm ss (j + 1)))) (.ite (fun h2 => ?_) (fun h2 => ?_)) ?_
  · ((try simp only [evE, liE, lO, lU, snd] at h2); (try simp only [cmE] at h2))
    rw [if_pos h2] at hsu
    rw [hsu]
    refine .alloc fun b2 => .append (n := (rootsU t rm ss j).length) (kx := 1) (qx := some ⟨b2, 0, none⟩) (capx := 1) (news := [.int .i64 j]) elN hR (fun g => g.cells (j := 1) rfl rfl rfl) rfl (by simp [Value.oneCell']) (fun h => by cases h) (by simp [maxLen]; omega) (by omega) (fun q3 k3 m3 hr3 hk3 hq3 => .again rfl ⟨q3, k3, ?_, hrow.keepA hR (by decide) hk3, ?_⟩)
    · (simp only [evE, liE, lO, lU, snd, Sh.uss, Sh.us, atAddr, map_add0, List.append_nil]); rw [List.length_append]; rfl
    · rw [List.length_append, show intsL (rootsU t rm ss j ++ [(j : Int)]) = intsL (rootsU t rm ss j) ++ [.int .i64 j] from List.map_append]; exact hr3
  · ((try simp only [evE, liE, lO, lU, snd] at h2); (try simp only [cmE] at h2))
    rw [if_neg h2] at hsu
    rw [hsu]
    exact .again rfl ⟨q, cq, by (simp only [evE, liE, lO, lU, snd, Sh.uss, Sh.us, atAddr, map_add0, List.append_nil]), hrow, hR⟩
  rintro _ m' _ ⟨q3, k3, rfl, hrow3, hR3⟩
  refine .env (by (try simp only [liE, lO, lU, snd, aN]); rfl) (.again rfl ⟨n - 1, by omega, q3, k3, j + 1, ?_, by omega, hrow3, hR3⟩)
  (simp only [evE, liE, lO, lU, snd, Sh.uss, Sh.us, atAddr, map_add0, List.append_nil]); rw [add_i64 j (by omega)]
theorem c_Min : RetP Tryd.prog n_sankoff_Min [slv p t.length cp, slv pm rm.length km, slv ps ss.length cs] (fun R => ProbAt R p pm t rm ∧ Cells R ps (intsL ss)) (.tuple #[.int .i64 (leastT t rm ss), .int .i64 0]) := by
  obtain ⟨h0, h63, hpar⟩ := treeE_ok hE
  refine Fn.of S_sankoff_Min mx [.p p, .i t.length, .i cp, .p pm, .i rm.length, .i km, .p ps, .i ss.length, .i cs] rfl rfl fun c hp => .callE (c_possible p pm ps cp km cs t rm ss hE h8 hn hM hS) (fun g => ⟨hp.1.mono g.R, hp.2.mono g.R⟩) ?_
  rintro v mq m1 _ hle ⟨g, fl, rfl, hQ⟩
  have hrow := Row.le hQ.row hle
  refine ⟨[.p p, .i t.length, .i cp, .p pm, .i rm.length, .i km, .p (some ⟨g, 0, none⟩), .i t.length, .i t.length, .i 0], uOk_of rfl, rfl, .env (by (try simp only [liE, lO, lU, snd, aN]); rfl) (.alloc fun b1 => .no rfl ?_)⟩
  exact .callV (c_root p pm (some ⟨g, 0, none⟩) t.length cp km t.length t.length rm fl _ hM hQ.at' (tab_num8 h8 hM ss) h0) (fun g => ⟨hp.1.m.mono g.R, hrow.reads g⟩) (.env (by (try simp only [liE, lO, lU, snd, aN]); rfl) (.ret rfl rfl))
end
theorem c_checked (p ps : Option Addr) (cp cs : Nat) (t : List ND) (n : Nat) (hE : treeE t = 0) (hn : ∀ x ∈ t, x.nm.length < 2 ^ 62) (hl : n = t.length) :
    RetP Tryd.prog n_sankoff_checked [slv p t.length cp, slv ps n cs, .bool false] (fun R => Cells R p (ncells t)) (.int .i64 0) := by
  obtain ⟨h0, h63, hpar⟩ := treeE_ok hE
  have hc := c_treeCheck p cp t (by omega) hn
  rw [hE] at hc
  subst hl
  exact Fn.of S_sankoff_checked mx [.p p, .i t.length, .i cp, .p ps, .i t.length, .i cs, .b false] rfl rfl fun c hp => .callV hc (fun g => hp.mono g.R) (.env (by (try simp only [liE, lO, lU, snd, aN]); rfl) (.no rfl (.no rfl (.chk (by ((try simp only [evE, liE, lO, lU, snd]); (try simp only [cmE])); omega) (.chk (by ((try simp only [evE, liE, lO, lU, snd]); (try simp only [cmE])); omega) (.no (by ((try simp only [evE, liE, lO, lU, snd]); (try simp only [cmE])) <;> simp) (.ret rfl rfl)))))))
theorem c_sCost (p pm ps : Option Addr) (cp km cs : Nat) (t : List ND) (rm : List IR) (all : List Int) (hE : treeE t = 0) (hn : ∀ x ∈ t, x.nm.length < 2 ^ 62) (hM : OkM rm) (hA : OkA t rm.length all) :
    RetP Tryd.prog n_sankoff_Cost [slv p t.length cp, slv pm rm.length km, slv ps all.length cs] (fun R => ProbAt R p pm t rm ∧ Cells R ps (intsL all)) (.tuple #[.int .i64 (changeE t rm all), .int .i64 0]) := by
  obtain ⟨h0, h63, hpar⟩ := treeE_ok hE
  have hal := hA.len
  have hm12 := hM.most
  have hlab : ∀ v, v < t.length → 0 ≤ labAt all v ∧ labAt all v < rm.length := fun v hv => by
    have := hA.at' _ (List.getElem_mem (show v < all.length by omega))
    rwa [← labAt_get (by omega)] at this
  refine Fn.of S_sankoff_Cost mx [.p p, .i t.length, .i cp, .p pm, .i rm.length, .i km, .p ps, .i all.length, .i cs] rfl rfl fun c hp => ?_
  refine .callV (c_matrix pm km rm hM) (fun g => hp.1.m.mono g.R) (.env (by (try simp only [liE, lO, lU, snd, aN]); rfl) (.callV (c_checked p ps cp cs t all.length hE hn hal) (fun g => hp.1.t.mono g.R) (.env (by (try simp only [liE, lO, lU, snd, aN]); rfl) (.no rfl (.chk (by ((try simp only [evE, liE, lO, lU, snd]); (try simp only [cmE])); omega) ?_)))))
  refine .loop (fun n us _ => ∃ (x y : Int) (j : Nat), us = [.i x, .i y, .i j] ∧ n + j = all.length) all.length ⟨0, 0, 0, rfl, rfl⟩ ?_
  rintro n _ m _ ⟨x, y, j, rfl, hnj⟩
  refine .env (by (try simp only [liE, lO, lU, snd, aN]); rfl) (.ite (fun h1 => ?_) (fun h1 => ?_)) <;> ((try simp only [evE, liE, lO, lU, snd] at h1); (try simp only [cmE] at h1))
  · have hj : j < all.length := by omega
    have := hlab j (by omega)
    refine .elem1 (.int .i64 (labAt all j)) (intsL all) j all.length rfl rfl hj (fun g => hp.2.mono g.R) (intsL_at _ j hj) (.env (by (try simp only [liE, lO, lU, snd, aN]); rfl) (.no (by ((try simp only [evE, liE, lO, lU, snd]); (try simp only [cmE])); omega) (.chk (by ((try simp only [evE, liE, lO, lU, snd]); (try simp only [cmE])); omega) (.no (by ((try simp only [evE, liE, lO, lU, snd]); (try simp only [cmE])); omega) (.again rfl ⟨n - 1, by omega, x, y, j + 1, ?_, by omega⟩)))))
    (simp only [evE, liE, lO, lU, snd, Sh.uss, Sh.us, atAddr, map_add0, List.append_nil]); rw [add_i64 j (by omega)]
  refine .loop (fun n us _ => ∃ v : Nat, 1 ≤ v ∧ us = [.i x, .i y, .i (upE t rm all v), .i v] ∧ n + v = t.length) (t.length - 1) ⟨1, Nat.le_refl 1, by (simp only [evE, liE, lO, lU, snd, Sh.uss, Sh.us, atAddr, map_add0, List.append_nil]); simp [upE], by omega⟩ ?_
  rintro n _ m _ ⟨v, hv1, rfl, hnv⟩
  refine .env (by (try simp only [liE, lO, lU, snd, aN]); rfl) (.chk (by ((try simp only [evE, liE, lO, lU, snd]); (try simp only [cmE])); omega) (.ite (fun h2 => ?_) (fun h2 => .ret rfl (by unfold changeE; rw [show t.length = v by ((try simp only [evE, liE, lO, lU, snd] at h2); (try simp only [cmE] at h2)); omega]; rfl)))) <;> ((try simp only [evE, liE, lO, lU, snd] at h2); (try simp only [cmE] at h2))
  have hv : v < t.length := by omega
  obtain ⟨hpe, hpl⟩ := parN_at hE hv hv1
  have ha1 := hlab v hv
  have ha2 := hlab (parN t v) (by omega)
  have hb := upE_bound t hM all v
  have hsu : upE t rm all (v + 1) = upE t rm all v + mAt rm (labAt all (parN t v)).toNat (labAt all v).toNat := by
    show _ + (if v = 0 then 0 else _) = _
    rw [if_neg (by omega)]
  obtain ⟨A, hAe⟩ := Int.eq_ofNat_of_zero_le ha2.1
  obtain ⟨B, hBe⟩ := Int.eq_ofNat_of_zero_le ha1.1
  have hAl : A < rm.length := by omega
  have hBl : B < rm.length := by omega
  have hra := hM.row _ (List.getElem_mem hAl)
  have hxm := hM.mAt A B
  have hmg := mAt_get (b := B) hAl
  rw [hAe, hBe, Int.toNat_natCast, Int.toNat_natCast] at hsu
  refine .loadNP t v hv (fun g => hp.1.t.mono g.R) ?_
  rw [hpe]
  refine .env (by (try simp only [liE, lO, lU, snd, aN]); rfl) (.elem1 (.int .i64 A) (intsL all) (parN t v) all.length rfl rfl (by omega) (fun g => hp.2.mono g.R) (by rw [intsL_at _ _ (by omega), hAe]) (.env (by (try simp only [liE, lO, lU, snd, aN]); rfl) ?_))
  refine .loadSl (rm.map IR.v) A rm.length rm[A].p rm[A].l.length rm[A].cap hAl (row_at rm A hAl) (fun g => hp.1.m.1.mono g.R) (.env (by (try simp only [liE, lO, lU, snd, aN]); rfl) ?_)
  refine .elem1 (.int .i64 B) (intsL all) v all.length rfl rfl (by omega) (fun g => hp.2.mono g.R) (by rw [intsL_at _ _ (by omega), hBe]) (.env (by (try simp only [liE, lO, lU, snd, aN]); rfl) ?_)
  refine .elem1 (.int .i64 (mAt rm A B)) (intsL rm[A].l) B rm[A].l.length rfl rfl (by omega) (fun g => (hp.1.m.2 _ (List.getElem_mem hAl)).mono g.R) (by rw [intsL_at _ B (by omega), hmg]) (.env (by (try simp only [liE, lO, lU, snd, aN]); rfl) (.no (by ((try simp only [evE, liE, lO, lU, snd]); (try simp only [cmE])); omega) (.again rfl ⟨n - 1, by omega, v + 1, by omega, ?_, by omega⟩)))
  (simp only [evE, liE, lO, lU, snd, Sh.uss, Sh.us, atAddr, map_add0, List.append_nil]); rw [add_i64 v (by omega), addI (by omega) (by omega), hsu]
end Go.Proofs.YtkhcfbdjmpodbaaDoor
