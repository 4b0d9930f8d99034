/- EditAligned: what the law's code answers. -/
import Derived.Test.YtedfogpnmpmggaaDoorHb
import Derived.Test.YtedfogpnmpmggaaDoorPm
set_option linter.unusedSimpArgs false
set_option linter.unusedVariables false
namespace Go.Proofs.YtedfogpnmpmggaaDoor
open Go Go.Sy Go.RowKit
theorem dC_comm (ws : List Int) (gap : Int) (x y : Snd) : dC ws gap x y = dC ws gap y x := by
  have e : diffS x y = diffS y x := by
    unfold diffS
    rw [Bool.and_comm, Nat.xor_comm, Nat.xor_comm x.2]
  unfold dC distC
  rw [e]
  cases valid x <;> cases valid y <;> simp
theorem cells_map1 {V : Mv} {p : Option Addr} {l : List Int} {k : IntKind} (h : Cells V p (l.flatMap fun x => [.int k x])) : Cells V p (l.map (.int k)) := by rw [flatMap_one] at h; exact h
/-- Where the walk by the picks stands. -/
structure AlS (cs : List Int) (gap : Int) (a b : List Snd) (q1 q2 q4 : Option Addr) (k1 k2 k4 : Nat) (q : Option Addr) (cq : Nat) (out : List (Int × Int)) (s : Int) (i j : Nat) (m : Mem) : Prop where
  hi : i ≤ a.length
  hj : j ≤ b.length
  ho : out.length ≤ i + j
  s0 : 0 ≤ s
  s1 : s ≤ 25769803776 * ((i : Int) + j)
  low : rst (dC cs gap) gap a b ≤ s + RA (dC cs gap) gap a b i j
  wk : Walked (dC cs gap) gap a b out s i j
  row : Row m 57 2 q cq out.length (pcells out)
  r1 : Row m 56 2 q1 k1 a.length (wcells a)
  r2 : Row m 56 2 q2 k2 b.length (wcells b)
  r4 : Row m 2 1 q4 k4 cs.length (cs.map (.int .i64))
theorem AlS.next {cs : List Int} {gap : Int} {a b : List Snd} {q1 q2 q4 : Option Addr} {k1 k2 k4 : Nat} {q : Option Addr} {cq : Nat} {out : List (Int × Int)} {s : Int} {i j : Nat} {m : Mem} (h : AlS cs gap a b q1 q2 q4 k1 k2 k4 q cq out s i j m) {q' : Option Addr} {cq' : Nat} {m' : Mem} {x : Int × Int} {c : Int} {i' j' : Nat}
    (hr : Row m' 57 2 q' cq' (out.length + 1) (pcells out ++ [.int .i64 x.1, .int .i64 x.2])) (hk : ∀ b, ((∃ o, q = some ⟨b, o, none⟩) → cq < out.length + 1) → m b ≠ none → m' b = m b) (hx : stepQ (dC cs gap) gap a b i j x = some (i', j', c))
    (c0 : 0 ≤ c) (c1 : c ≤ 25769803776) (hl : RA (dC cs gap) gap a b i j ≤ c + RA (dC cs gap) gap a b i' j') (h1 : i' ≤ a.length) (h2 : j' ≤ b.length) (h3 : i + j < i' + j') : AlS cs gap a b q1 q2 q4 k1 k2 k4 q' cq' (out ++ [x]) (s + c) i' j' m' where
  hi := h1
  hj := h2
  ho := by have := h.ho; simp; omega
  s0 := by have := h.s0; omega
  s1 := by have := h.s1; omega
  low := by have := h.low; omega
  wk := h.wk.step hx
  row := by rw [pcells_append, List.length_append]; exact hr
  r1 := h.r1.keepA h.row (by decide) hk
  r2 := h.r2.keepA h.row (by decide) hk
  r4 := h.r4.keepA h.row (by decide) hk
set_option maxHeartbeats 4000000 in
theorem l_EditAligned (px py pw pk : Option Addr) (cx cy cw ck : Nat) (x y : List (Int × Int)) (ws : List Int) (g : Int) (ps : List Int) (hx : U8ok x) (hy : U8ok y) (hw : ∀ w ∈ ws, (Lit.int .u16 w).wf = true) (hg : (Lit.int .u16 g).wf = true) :
    RetP Tryd.prog n_law17_EditAligned [slv px x.length cx, slv py y.length cy, slv pw ws.length cw, .int .u16 g, slv pk ps.length ck] (fun R => Cells R px (bcells x) ∧ Cells R py (bcells y) ∧ Cells R pw (ws.map (.int .u16)) ∧ Cells R pk (ps.map (.int .u8)) ∧ TabOk R) (.bool true) := by
  refine Fn.of S_law17_EditAligned mx [.p px, .i x.length, .i cx, .p py, .i y.length, .i cy, .p pw, .i ws.length, .i cw, .i g, .p pk, .i ps.length, .i ck] rfl rfl fun c hp => ?_
  obtain ⟨hp1, hp2, hp4, hpk, hp5⟩ := hp
  refine .callM (c_mkW px cx x hx) rfl rfl (fun g => hp1.mono g.R) ?_
  rintro v mq1 hf1 ⟨q1, k1, rfl, hr1⟩
  refine ⟨[.p q1, .i (madeW x).length, .i k1], ⟨_, _, _, rfl⟩, (slv_fresh _ _ _ _ _).symm, ?_⟩
  replace hr1 := hr1.joinR (m := Mem.emp) fun b hb => (hf1 b hb).1
  refine .env (by (try simp only [liE, letsOf, letU, snd, List.append_nil]); rfl) (.callM (c_mkW py cy y hy) rfl rfl (fun g => hp2.mono g.R) ?_)
  rintro v mq2 hf2 ⟨q2, k2, rfl, hr2⟩
  refine ⟨[.p q2, .i (madeW y).length, .i k2], ⟨_, _, _, rfl⟩, (slv_fresh _ _ _ _ _).symm, ?_⟩
  replace hr2 := hr2.joinR fun b hb => (hf2 b hb).1
  replace hr1 := hr1.joinL (mq := mq2)
  refine .env (by (try simp only [liE, letsOf, letU, snd, List.append_nil]); rfl) (.callM (c_mkC pw cw ws g hw hg) rfl rfl (fun g => hp4.mono g.R) ?_)
  rintro v mq4 hf4 ⟨q4, k4, rfl, hr4⟩
  refine ⟨[.p q4, .i (costsW ws).length, .i k4, .i (g % 1000)], uOk_of rfl, (costs_fresh _ _ _ _ _ _).symm, ?_⟩
  replace hr4 := hr4.joinR fun b hb => (hf4 b hb).1
  replace hr1 := hr1.joinL (mq := mq4)
  replace hr2 := hr2.joinL (mq := mq4)
  generalize Mem.join _ mq4 = m at *
  clear hf1 hf2 hf4
  obtain ⟨cc, cw0, cl⟩ := costsW_ok hw hg
  have hga := costsW_gap hg
  have va := madeW_ok hx
  have vb := madeW_ok hy
  have la : (madeW x).length ≤ 10 := by simp [madeW]; omega
  have lb : (madeW y).length ≤ 10 := by simp [madeW]; omega
  generalize madeW x = a at *
  generalize madeW y = b at *
  generalize costsW ws = cs at *
  generalize g % 1000 = gap at *
  have hchk := check2 cc va vb
  have hchk' := check2 cc vb va
  have d1 := c_editDist ⟨q1, k1, a⟩ ⟨q2, k2, b⟩ q4 k4 cs gap va.wok vb.wok
  simp only [distE_ok cc va vb, ← rst_d0 cc va.val vb.val] at d1
  have d2 := c_editAlign ⟨q1, k1, a⟩ ⟨q2, k2, b⟩ q4 k4 cs gap va.wok vb.wok
  have eal : alignE cs gap a b = algn (dC cs gap) gap a b := by unfold alignE; rw [if_neg (by simp [hchk])]
  simp only [eal, hchk] at d2
  have hlen : (algn (dC cs gap) gap a b).length ≤ 20 := by
    have : ∀ n i j, (algA (dC cs gap) gap a b n i j).length ≤ n := fun n => by
      induction n with
      | zero => intro i j; simp [algA]
      | succ n ih =>
        intro i j
        rw [algA]
        split
        · simp
        · simp only [List.length_cons]; have := ih; rename_i x _ _; have := ih x.1 x.2.1; omega
    exact Nat.le_trans (this _ _ _) (by omega)
  have esc : scoreE cs gap a b (algn (dC cs gap) gap a b) = (rst (dC cs gap) gap a b, 0) := by unfold scoreE; rw [if_neg (by simp [hchk]), scoreA_algn]
  have ew : ∀ {a' b' : List Snd}, a'.length ≤ 10 → b'.length ≤ 10 → checkE cs gap [a', b'] = 0 → waysE cs gap a' b' = (((way (dC cs gap) gap a' b' : Nat) : Int), 0) := fun {a' b'} l1 l2 hc => by
    unfold waysE
    have := way_bound (d := dC cs gap) (g := gap) a' b'
    have h3 : 3 ^ (a'.length + b'.length) ≤ 3 ^ 20 := Nat.pow_le_pow_right (by decide) (by omega)
    rw [if_neg (by simp [hc]), if_neg (by omega)]
  have d4 := c_editWays ⟨q1, k1, a⟩ ⟨q2, k2, b⟩ q4 k4 cs gap va.wok vb.wok
  have d5 := c_editWays ⟨q2, k2, b⟩ ⟨q1, k1, a⟩ q4 k4 cs gap vb.wok va.wok
  simp only [ew la lb hchk] at d4
  simp only [ew lb la hchk', ← way_comm (dC_comm cs gap) a b] at d5
  have hw1 := way_pos (d := dC cs gap) (g := gap) a b
  have hrd : ∀ {L : List Nat} {ρ : Env} {blks : List Blk}, Good c L m → WordAt (vw c L ρ blks m) q1 a ∧ WordAt (vw c L ρ blks m) q2 b ∧ CostsAt (vw c L ρ blks m) q4 cs ∧ TabOk (vw c L ρ blks m) := fun g => ⟨hr1.reads g, hr2.reads g, hr4.reads g, hp5.mono g.R⟩
  refine .env (by (try simp only [liE, letsOf, letU, snd, List.append_nil]); rfl) (.alloc fun b0 => .callV d1 (fun g => hrd g) (.callM d2 rfl rfl (fun g => hrd g) ?_))
  clear d1 d2 hrd
  rintro v mq5 hf5 ⟨q5, k5, rfl, hr5⟩
  refine ⟨[.p q5, .i (algn (dC cs gap) gap a b).length, .i k5, .i 0], uOk_of rfl, rfl, ?_⟩
  replace hr5 := hr5.joinR fun b hb => (hf5 b hb).1
  replace hr1 := hr1.joinL (mq := mq5)
  replace hr2 := hr2.joinL (mq := mq5)
  replace hr4 := hr4.joinL (mq := mq5)
  generalize Mem.join _ mq5 = m at *
  clear hf5
  have hrd : ∀ {L : List Nat} {ρ : Env} {blks : List Blk}, Good c L m → WordAt (vw c L ρ blks m) q1 a ∧ WordAt (vw c L ρ blks m) q2 b ∧ CostsAt (vw c L ρ blks m) q4 cs ∧ TabOk (vw c L ρ blks m) := fun g => ⟨hr1.reads g, hr2.reads g, hr4.reads g, hp5.mono g.R⟩
  have d3 := c_editScore ⟨q1, k1, a⟩ ⟨q2, k2, b⟩ q5 k5 (algn (dC cs gap) gap a b) q4 k4 cs gap va.wok vb.wok (by omega)
  simp only [esc] at d3
  generalize algn (dC cs gap) gap a b = al at *
  refine .env (by (try simp only [liE, letsOf, letU, snd, List.append_nil]); rfl) (.callV d3 (fun g => let h := hrd g; ⟨h.1, h.2.1, hr5.reads g, h.2.2⟩) (.callV d4 (fun g => hrd g) (.callV d5 (fun g => let h := hrd g; ⟨h.2.1, h.1, h.2.2⟩) ?_)))
  clear d3 d4 d5 hrd eal esc ew
  refine .env (by (try simp only [liE, letsOf, letU, snd, List.append_nil]); rfl) (.no (by ((try simp only [evE, liE, letsOf, letU, snd]); (try simp only [cmE])) <;> simp <;> omega) ?_)
  refine .loop (fun n us m => ∃ (q : Option Addr) (cq : Nat) (out : List (Int × Int)) (s : Int) (i j k : Nat), us = [.b false, .p q, .i out.length, .i cq, .i s, .i i, .i j, .i k] ∧ n + (i + j) = a.length + b.length ∧ k ≤ i + j ∧ AlS cs gap a b q1 q2 q4 k1 k2 k4 q cq out s i j m) (a.length + b.length)
    ⟨none, 0, [], 0, 0, 0, 0, rfl, by omega, by omega, ⟨Nat.zero_le _, Nat.zero_le _, Nat.zero_le _, by omega, by omega, by show _ ≤ 0 + rst _ _ _ _; simp, .nil, Row.nil _ _ _, hr1, hr2, hr4⟩⟩ ?_
  clear hr1 hr2 hr4 hr5
  rintro n _ m _ ⟨q, cq, out, s, i, j, k, rfl, hn, hk, hS⟩
  have hi := hS.hi
  have hj := hS.hj
  have ho := hS.ho
  have s0 := hS.s0
  have s1 := hS.s1
  have ei := add_i64 i (by omega)
  have ej := add_i64 j (by omega)
  have ek := add_i64 k (by omega)
  have hrd : ∀ {L : List Nat} {ρ : Env} {blks : List Blk}, Good c L m → WordAt (vw c L ρ blks m) q1 a ∧ WordAt (vw c L ρ blks m) q2 b ∧ CostsAt (vw c L ρ blks m) q4 cs ∧ TabOk (vw c L ρ blks m) := fun g => ⟨hS.r1.reads g, hS.r2.reads g, hS.r4.reads g, hp5.mono g.R⟩
  refine .join (fun us m' => us = [.b (decide (i < a.length ∨ j < b.length))] ∧ m = m') (.chk (by ((try simp only [evE, liE, letsOf, letU, snd]); (try simp only [cmE])); omega) (.ite (fun h1 => .again rfl ⟨?_, rfl⟩) (fun h1 => .chk (by ((try simp only [evE, liE, letsOf, letU, snd]); (try simp only [cmE])); omega) (.again rfl ⟨?_, rfl⟩)))) ?_ <;> try ((try simp only [evE, liE, letsOf, letU, snd] at h1); (try simp only [cmE] at h1))
  · (simp only [evE, liE, letsOf, letU, snd, Sh.uss, Sh.us, atAddr, map_add0, List.append_nil]); simp [show i < a.length by omega]
  · (simp only [evE, liE, letsOf, letU, snd, Sh.uss, Sh.us, atAddr, map_add0, List.append_nil]); ((try simp only [evE, liE, letsOf, letU, snd]); (try simp only [cmE])); simp [show ¬ i < a.length by omega]
  rintro _ _ _ ⟨rfl, rfl⟩
  refine .env (by (try simp only [liE, letsOf, letU, snd, List.append_nil]); rfl) (.ite (fun h1 => ?_) (fun h1 => ?_)) <;> ((try simp only [evE, liE, letsOf, letU, snd] at h1); (try simp only [cmE] at h1))
  · let I1 : List U → Mem → Prop := fun us m' => ∃ (q' : Option Addr) (cq' : Nat) (out' : List (Int × Int)) (s' : Int) (i' j' : Nat), us = [.b false, .p q', .i out'.length, .i cq', .i s', .i i', .i j'] ∧ AlS cs gap a b q1 q2 q4 k1 k2 k4 q' cq' out' s' i' j' m' ∧ i + j < i' + j'
    let I3 : List U → Mem → Prop := fun us m' => ∃ (q' : Option Addr) (cq' : Nat) (out' : List (Int × Int)) (s' : Int) (i' j' : Nat), us = [.p q', .i out'.length, .i cq', .i s', .i i', .i j'] ∧ AlS cs gap a b q1 q2 q4 k1 k2 k4 q' cq' out' s' i' j' m' ∧ i + j < i' + j'
    refine .join I1 ?_ ?_
    · refine .chk (by ((try simp only [evE, liE, letsOf, letU, snd]); (try simp only [cmE])); omega) (.join (fun us m' => (∃ z : Int, us = [.i z]) ∧ m = m') (.ite (fun h2 => ?_) (fun h2 => .again rfl ⟨⟨_, rfl⟩, rfl⟩)) ?_)
      · ((try simp only [evE, liE, letsOf, letU, snd] at h2); (try simp only [cmE] at h2))
        have hkl : k < ps.length := by omega
        exact .elem1 (.int .u8 ps[k]) (ps.map (.int .u8)) k ps.length rfl rfl hkl (fun g => hpk.mono g.R) (by simp [hkl]) (.again rfl ⟨⟨_, rfl⟩, rfl⟩)
      rintro _ _ _ ⟨⟨z, rfl⟩, rfl⟩
      refine .env (by (try simp only [liE, letsOf, letU, snd, List.append_nil]); rfl) (.join (fun us m' => (∃ bb : Bool, us = [.b bb] ∧ (bb = true → i < a.length ∧ j < b.length)) ∧ m = m') (.chk (by ((try simp only [evE, liE, letsOf, letU, snd]); (try simp only [cmE])); omega) (.ite (fun h2 => .chk (by ((try simp only [evE, liE, letsOf, letU, snd]); (try simp only [cmE])); omega) (.ite (fun h3 => .again rfl ⟨⟨_, rfl, fun _ => ?_⟩, rfl⟩) (fun h3 => .again rfl ⟨⟨false, rfl, fun h => by cases h⟩, rfl⟩))) (fun h2 => .again rfl ⟨⟨false, rfl, fun h => by cases h⟩, rfl⟩))) ?_)
      · ((try simp only [evE, liE, letsOf, letU, snd] at h2); (try simp only [cmE] at h2))
        ((try simp only [evE, liE, letsOf, letU, snd] at h3); (try simp only [cmE] at h3))
        omega
      rintro _ _ _ ⟨⟨bb, rfl, hbb⟩, rfl⟩
      refine .env (by (try simp only [liE, letsOf, letU, snd, List.append_nil]); rfl) (.join I1 (.ite (fun h2 => ?_) (fun h2 => ?_)) ?_)
      · obtain ⟨hia, hjb⟩ := hbb h2
        have hdp := distC_pos (x := a[i]) (y := b[j]) cc
        have hdc : (distC a[i] b[j] cs gap).2 = 0 := by
          unfold distC
          rw [if_neg (by simp [va.val a[i] (List.getElem_mem hia), vb.val b[j] (List.getElem_mem hjb)]), if_neg (by simp [cc])]
        refine .loadW a i hia (fun g => (hrd g).1) (.loadW b j hjb (fun g => (hrd g).2.1) (.callV (c_dist a[i] b[j] q4 k4 cs gap (va.wok.at hia) (vb.wok.at hjb)) (fun g => (hrd g).2.2) (.no (by ((try simp only [evE, liE, letsOf, letU, snd]); (try simp only [cmE])) <;> simp [hdc]) (.alloc fun b1 => ?_))))
        refine .env (by (try simp only [liE, letsOf, letU, snd, List.append_nil]); rfl) (.append (q := q) (cap := cq) (n := out.length) (qx := some ⟨b1, 0, none⟩) (kx := 1) (capx := 1) (news := [.int .i64 (i : Int), .int .i64 (j : Int)]) el33 hS.row (fun g => g.cells (j := 1) rfl rfl rfl) (by simp) (by simp [Value.oneCell']) (fun h => by cases h) (by simp [maxLen]; omega) (by omega) (fun q' cq' m' hr' hk' _ => .again rfl ⟨q', cq', out ++ [((i : Int), (j : Int))], s + (distC a[i] b[j] cs gap).1, i + 1, j + 1, ?_, hS.next (x := ((i : Int), (j : Int))) hr' hk' (stepQ_both hia hjb rfl rfl) hdp.1 (by omega) (RA_both hia hjb) hia hjb (by omega), by omega⟩))
        (simp only [evE, liE, letsOf, letU, snd, Sh.uss, Sh.us, atAddr, map_add0, List.append_nil]); rw [ei, ej, addI (by omega) (by omega), List.length_append]; rfl
      · refine .join (fun us m' => (∃ b3 : Bool, us = [.b b3] ∧ (b3 = true → i < a.length) ∧ (b3 = false → j < b.length)) ∧ m = m') (.chk (by ((try simp only [evE, liE, letsOf, letU, snd]); (try simp only [cmE])); omega) (.ite (fun h3 => .ite (fun h4 => .again rfl ⟨⟨true, rfl, fun _ => ?_, fun h => by cases h⟩, rfl⟩) (fun h4 => .chk (by ((try simp only [evE, liE, letsOf, letU, snd]); (try simp only [cmE])); omega) (.again rfl ⟨⟨decide ((j : Int) = b.length), ?_, fun _ => ?_, fun h => ?_⟩, rfl⟩))) (fun h3 => .again rfl ⟨⟨false, rfl, (fun h => by cases h), fun _ => ?_⟩, rfl⟩))) ?_ <;> try ((try simp only [evE, liE, letsOf, letU, snd] at h3); (try simp only [cmE] at h3))
        · omega
        · (simp only [evE, liE, letsOf, letU, snd, Sh.uss, Sh.us, atAddr, map_add0, List.append_nil]); ((try simp only [evE, liE, letsOf, letU, snd]); (try simp only [cmE])); rfl
        · omega
        · have := of_decide_eq_false h; omega
        · omega
        rintro _ _ _ ⟨⟨b3, rfl, hb3, hb3'⟩, rfl⟩
        refine .env (by (try simp only [liE, letsOf, letU, snd, List.append_nil]); rfl) (.join I3 (.ite (fun h4 => ?_) (fun h4 => .chk (by ((try simp only [evE, liE, letsOf, letU, snd]); (try simp only [cmE])); omega) ?_)) ?_)
        · have hia := hb3 h4
          refine .alloc fun b1 => .append (q := q) (cap := cq) (n := out.length) (qx := some ⟨b1, 0, none⟩) (kx := 1) (capx := 1) (news := [.int .i64 (i : Int), .int .i64 (-1)]) el33 hS.row (fun g => g.cells (j := 1) rfl rfl rfl) (by simp) (by simp [Value.oneCell']) (fun h => by cases h) (by simp [maxLen]; omega) (by omega) (fun q' cq' m' hr' hk' _ => .again rfl ⟨q', cq', out ++ [((i : Int), -1)], s + gap, i + 1, j, ?_, hS.next (x := ((i : Int), -1)) hr' hk' (stepQ_one hia rfl rfl) hga.1 (by omega) (RA_one hia) hia hj (by omega), by omega⟩)
          (simp only [evE, liE, letsOf, letU, snd, Sh.uss, Sh.us, atAddr, map_add0, List.append_nil]); rw [ei, addI (by omega) (by omega), List.length_append]; rfl
        · have hjb := hb3' h4
          refine .no (by ((try simp only [evE, liE, letsOf, letU, snd]); (try simp only [cmE])) <;> simp <;> omega) (.alloc fun b1 => .append (q := q) (cap := cq) (n := out.length) (qx := some ⟨b1, 0, none⟩) (kx := 1) (capx := 1) (news := [.int .i64 (-1), .int .i64 (j : Int)]) el33 hS.row (fun g => g.cells (j := 1) rfl rfl rfl) (by simp) (by simp [Value.oneCell']) (fun h => by cases h) (by simp [maxLen]; omega) (by omega) (fun q' cq' m' hr' hk' _ => .again rfl ⟨q', cq', out ++ [(-1, (j : Int))], s + gap, i, j + 1, ?_, hS.next (x := (-1, (j : Int))) hr' hk' (stepQ_two hjb rfl rfl) hga.1 (by omega) (RA_two hjb) hi hjb (by omega), by omega⟩))
          (simp only [evE, liE, letsOf, letU, snd, Sh.uss, Sh.us, atAddr, map_add0, List.append_nil]); rw [ej, addI (by omega) (by omega), List.length_append]; rfl
        · rintro _ m' _ ⟨q', cq', out', s', i', j', rfl, hS', hlt⟩
          exact .env (by (try simp only [liE, letsOf, letU, snd, List.append_nil]); rfl) (.again rfl ⟨q', cq', out', s', i', j', by (simp only [evE, liE, letsOf, letU, snd, Sh.uss, Sh.us, atAddr, map_add0, List.append_nil]), hS', hlt⟩)
      · rintro _ m' _ ⟨q', cq', out', s', i', j', rfl, hS', hlt⟩
        exact .env (by (try simp only [liE, letsOf, letU, snd, List.append_nil]); rfl) (.again rfl ⟨q', cq', out', s', i', j', by (simp only [evE, liE, letsOf, letU, snd, Sh.uss, Sh.us, atAddr, map_add0, List.append_nil]), hS', hlt⟩)
    · rintro _ m' _ ⟨q', cq', out', s', i', j', rfl, hS', hlt⟩
      have := hS'.hi
      have := hS'.hj
      refine .env (by (try simp only [liE, letsOf, letU, snd, List.append_nil]); rfl) (.again rfl ⟨a.length + b.length - (i' + j'), by omega, q', cq', out', s', i', j', k + 1, ?_, by omega, by omega, hS'⟩)
      (simp only [evE, liE, letsOf, letU, snd, Sh.uss, Sh.us, atAddr, map_add0, List.append_nil]); rw [ek]
  · have hia : a.length ≤ i := by omega
    have hjb : b.length ≤ j := by omega
    have eq := hS.wk.done hia hjb
    have hlow := hS.low
    rw [RA_end hia hjb] at hlow
    have esc : scoreE cs gap a b out = (s, 0) := by unfold scoreE; rw [if_neg (by simp [hchk]), eq]
    have d3 := c_editScore ⟨q1, k1, a⟩ ⟨q2, k2, b⟩ q cq out q4 k4 cs gap va.wok vb.wok (by omega)
    simp only [esc] at d3
    refine .callV d3 (fun g => let h := hrd g; ⟨h.1, h.2.1, hS.row.reads g, h.2.2⟩) (.no (by ((try simp only [evE, liE, letsOf, letU, snd]); (try simp only [cmE])) <;> simp <;> omega) (.chk (by ((try simp only [evE, liE, letsOf, letU, snd]); (try simp only [cmE])); omega) (.join (fun us m' => us = [.b false] ∧ m = m') (.ite (fun h2 => ?_) (fun h2 => .again rfl ⟨rfl, rfl⟩)) ?_)))
    · ((try simp only [evE, liE, letsOf, letU, snd] at h2); (try simp only [cmE] at h2))
      obtain ⟨gq, hgq, hcap⟩ : ∃ gq, q = some ⟨gq, 0, none⟩ ∧ out.length ≤ cq := by
        rcases hS.row.2 with ⟨_, h, _⟩ | ⟨gq, _, h, _, h', _⟩
        · omega
        · exact ⟨gq, h, h'⟩
      cases out with
      | nil => simp at h2
      | cons z t =>
      have etl := scoreA_tail eq
      have esc' : scoreE cs gap a b t = (0, 8) := by unfold scoreE; rw [if_neg (by simp [hchk]), etl]
      rw [List.length_cons] at ho hcap
      have d6 := c_editScore ⟨q1, k1, a⟩ ⟨q2, k2, b⟩ (q.map fun a => a.add (if (cq : Int) = 1 then (0 : Int) else 2).toNat) (cq - 1) t q4 k4 cs gap va.wok vb.wok (by omega)
      simp only [esc'] at d6
      have hcells : ∀ {L : List Nat} {ρ : Env} {blks : List Blk}, Good c L m → Cells (vw c L ρ blks m) (q.map fun a => a.add (if (cq : Int) = 1 then (0 : Int) else 2).toNat) (pcells t) := fun g n u hu => by
        have hl := (List.getElem?_eq_some_iff.1 hu).1
        rw [pcells_len] at hl
        obtain ⟨b', o', e1, e2⟩ := hS.row.reads g (n + 2) u (by rw [show pcells (z :: t) = [.int .i64 z.1, .int .i64 z.2] ++ pcells t from rfl, List.getElem?_append_right (by simp)]; simpa using hu)
        rw [e1]
        refine ⟨b', o' + 2, ?_, by rw [show o' + 2 + n = o' + (n + 2) by omega]; exact e2⟩
        rw [if_neg (by omega)]; rfl
      refine .chk (by ((try simp only [evE, liE, letsOf, letU, snd]); (try simp only [cmE])); simp; omega) (.callV d6 (fun g => let h := hrd g; ⟨h.1, h.2.1, hcells g, h.2.2⟩) (.no (by ((try simp only [evE, liE, letsOf, letU, snd]); (try simp only [cmE])) <;> simp) (.again rfl ⟨rfl, rfl⟩)) (hargs := ?_))
      have e1 : (((t.length + 1 : Nat) : Int) - 1).toNat = t.length := by omega
      have e2 : ((cq : Int) - 1).toNat = cq - 1 := by omega
      show [slv q1 a.length k1, slv q2 b.length k2, Value.slice (q.map fun a => a.add (if (cq : Int) = 1 then (0 : Int) else 2).toNat) (((t.length + 1 : Nat) : Int) - 1).toNat ((cq : Int) - 1).toNat, costs q4 cs.length k4 gap] = [slv q1 a.length k1, slv q2 b.length k2, slv (q.map fun a => a.add (if (cq : Int) = 1 then (0 : Int) else 2).toNat) t.length (cq - 1), costs q4 cs.length k4 gap]
      rw [e1, e2, slv_eq (q.map _)]
    · rintro _ _ _ ⟨rfl, rfl⟩
      exact .env (by (try simp only [liE, letsOf, letU, snd, List.append_nil]); rfl) (.callV c_works17 (fun g => hp5.mono g.R) (.ret rfl rfl))
end Go.Proofs.YtedfogpnmpmggaaDoor
