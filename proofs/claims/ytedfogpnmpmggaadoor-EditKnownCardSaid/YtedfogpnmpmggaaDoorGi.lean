/- The words and costs that the laws of chapter 17 make; distances of valid sounds as a metric. -/
import Derived.Test.YtedfogpnmpmggaaDoorBc
import Derived.Test.YtedfogpnmpmggaaDoorFg
set_option linter.unusedSimpArgs false
set_option linter.unusedVariables false
namespace Go.Sy
open Go Go.RowKit
theorem Row.joinL {m mq : Mem} {e : TypeId} {size : Nat} {q : Option Addr} {cap n : Nat} {xs : List Value} (h : Row m e size q cap n xs) : Row (m.join mq) e size q cap n xs := h.keep fun g _ hg' => by cases h : m g with | none => exact absurd h hg' | some o => exact Mem.join_at h
theorem Row.joinR {m mq : Mem} {e : TypeId} {size : Nat} {q : Option Addr} {cap n : Nat} {xs : List Value} (h : Row mq e size q cap n xs) (hf : ∀ b, mq b ≠ none → m b = none) : Row (m.join mq) e size q cap n xs := h.keep fun g _ hg' => Mem.join_new (hf g hg')
/-! Distances without a look at what is valid. -/
def d0 (ws : List Int) : Snd → Snd → Int := fun x y => sumW ((x.1 ^^^ y.1) ||| (x.2 ^^^ y.2)) ws
theorem sumW_none (ws : List Int) : sumW 0 ws = 0 := by
  induction ws with
  | nil => rfl
  | cons w ws ih => simp [sumW, ih]
theorem d0_self (ws : List Int) (x : Snd) : d0 ws x x = 0 := by unfold d0; rw [Nat.xor_self, Nat.xor_self]; exact sumW_none ws
theorem d0_comm (ws : List Int) (x y : Snd) : d0 ws x y = d0 ws y x := by unfold d0; rw [Nat.xor_comm, Nat.xor_comm x.2]
theorem sumW_nonneg (n : Nat) (ws : List Int) (h : ∀ w ∈ ws, 0 ≤ w) : 0 ≤ sumW n ws := by
  induction ws generalizing n with
  | nil => simp [sumW]
  | cons w ws ih =>
    have := h w (by simp)
    have := ih (n / 2) fun x hx => h x (by simp [hx])
    simp only [sumW]; split <;> omega
theorem sumW_tri' (a b c : Nat) (ws : List Int) (hw : ∀ w ∈ ws, 0 ≤ w) (h : ∀ i, a.testBit i = true → b.testBit i = true ∨ c.testBit i = true) : sumW a ws ≤ sumW b ws + sumW c ws := by
  induction ws generalizing a b c with
  | nil => simp [sumW]
  | cons w ws ih =>
    have h0 := hw w (by simp)
    have := ih (a / 2) (b / 2) (c / 2) (fun x hx => hw x (by simp [hx])) fun i hi => by
      rw [← Nat.testBit_succ] at hi ⊢
      rw [← Nat.testBit_succ]
      exact h (i + 1) hi
    have h1 := h 0
    simp only [sumW]
    cases ha : a.testBit 0 <;> cases hb : b.testBit 0 <;> cases hc : c.testBit 0 <;> simp [ha, hb, hc] at h1 ⊢ <;> omega
theorem d0_tri (ws : List Int) (hw : ∀ w ∈ ws, 0 ≤ w) (x y z : Snd) : d0 ws x z ≤ d0 ws x y + d0 ws y z := by
  refine sumW_tri' _ _ _ ws hw fun i hi => ?_
  simp only [Nat.testBit_or, Nat.testBit_xor] at hi ⊢
  revert hi
  cases x.1.testBit i <;> cases y.1.testBit i <;> cases z.1.testBit i <;> cases x.2.testBit i <;> cases y.2.testBit i <;> cases z.2.testBit i <;> simp
theorem sumW_bit (n : Nat) (ws : List Int) (hw : ∀ w ∈ ws, 0 ≤ w) (i : Nat) (hi : n.testBit i = true) (w : Int) (hl : ws[i]? = some w) : w ≤ sumW n ws := by
  induction ws generalizing n i with
  | nil => simp at hl
  | cons x ws ih =>
    have h0 := hw x (by simp)
    have h1 := sumW_nonneg (n / 2) ws fun y hy => hw y (by simp [hy])
    cases i with
    | zero =>
      simp at hl; subst hl
      simp only [sumW]; rw [if_pos hi]; omega
    | succ i =>
      rw [Nat.testBit_succ] at hi
      have := ih (n / 2) (fun y hy => hw y (by simp [hy])) i hi (by simpa using hl)
      simp only [sumW]; split <;> omega
theorem dC_d0 {ws : List Int} {gap : Int} (hc : checkC ws gap = 0) {x y : Snd} (hx : valid x = true) (hy : valid y = true) : dC ws gap x y = d0 ws x y := by
  unfold dC distC d0 diffS
  rw [if_neg (by simp [hx, hy]), if_neg (by simp [hc]), hx, hy]; rfl
theorem rst_d0 {ws : List Int} {gap : Int} (hc : checkC ws gap = 0) {a b : List Snd} (ha : ∀ s ∈ a, valid s = true) (hb : ∀ s ∈ b, valid s = true) : rst (dC ws gap) gap a b = rst (d0 ws) gap a b := rst_congr a b fun x hx y hy => dC_d0 hc (ha x hx) (hb y hy)
/-- Words that can be compared. -/
structure Vok (a : List Snd) : Prop where
  len : a.length ≤ 32
  val : ∀ s ∈ a, valid s = true
theorem Vok.wok {a : List Snd} (h : Vok a) : Wok a := fun s hs => .of_valid (h.val s hs)
theorem Vok.check {a : List Snd} (h : Vok a) : checkW a = 0 := by
  unfold checkW
  have := h.len
  rw [if_neg (by omega), if_pos (List.all_eq_true.2 h.val)]
theorem check2 {ws : List Int} {gap : Int} (hc : checkC ws gap = 0) {a b : List Snd} (ha : Vok a) (hb : Vok b) : checkE ws gap [a, b] = 0 := checkE_mk hc fun x hx => by
  simp only [List.mem_cons, List.not_mem_nil, or_false] at hx
  rcases hx with rfl | rfl
  · exact ha.check
  · exact hb.check
/-! Words and costs made of small numbers. -/
def mkS (x : Int × Int) : Snd := (x.1.toNat &&& 16777215, nandN (x.2.toNat &&& 16777215) x.1.toNat)
def madeW (l : List (Int × Int)) : List Snd := (l.take 10).map mkS
def U8ok (l : List (Int × Int)) : Prop := ∀ x ∈ l, (Lit.int .u8 x.1).wf = true ∧ (Lit.int .u8 x.2).wf = true
theorem u8_range {z : Int} (h : (Lit.int .u8 z).wf = true) : 0 ≤ z ∧ z ≤ 255 := by
  simp only [Lit.wf, Bool.and_eq_true, decide_eq_true_eq] at h
  exact h
theorem u16_rng {z : Int} (h : (Lit.int .u16 z).wf = true) : 0 ≤ z ∧ z ≤ 65535 := by
  simp only [Lit.wf, Bool.and_eq_true, decide_eq_true_eq] at h
  exact h
theorem mkS_valid {x : Int × Int} (h : (Lit.int .u8 x.1).wf = true ∧ (Lit.int .u8 x.2).wf = true) : valid (mkS x) = true := by
  have h1 := u8_range h.1
  refine (valid_iff _).2 ⟨fun i hi => ?_, Nat.lt_of_le_of_lt Nat.and_le_right (by decide), nandN_lt (Nat.lt_of_le_of_lt Nat.and_le_right (by decide))⟩
  unfold mkS at hi
  rw [testBit_nandN _ _ _ (Nat.lt_of_le_of_lt Nat.and_le_right (by decide))] at hi
  simp [Nat.testBit_and] at hi
  simp [hi.1.1] at hi
theorem madeW_ok {l : List (Int × Int)} (h : U8ok l) : Vok (madeW l) := ⟨by simp [madeW]; omega, fun s hs => by
  obtain ⟨x, hx, rfl⟩ := List.mem_map.1 hs
  exact mkS_valid (h x (List.mem_of_mem_take hx))⟩
def costsW (ws : List Int) : List Int := (ws.take 24).map fun w => w % 1000
theorem costsW_ok {ws : List Int} {g : Int} (hw : ∀ z ∈ ws, (Lit.int .u16 z).wf = true) (hg : (Lit.int .u16 g).wf = true) : checkC (costsW ws) (g % 1000) = 0 ∧ (∀ w ∈ costsW ws, 0 ≤ w) ∧ (costsW ws).length ≤ 24 := by
  have hl : (costsW ws).length ≤ 24 := by simp [costsW]; omega
  have hb : ∀ w ∈ costsW ws, 0 ≤ w ∧ w < 1000 := fun w hm => by
    obtain ⟨x, _, rfl⟩ := List.mem_map.1 hm
    omega
  refine ⟨?_, fun w hm => (hb w hm).1, hl⟩
  unfold checkC
  rw [if_neg]
  simp only [not_or, List.any_eq_true, not_exists, not_and]
  refine ⟨by omega, by omega, by omega, fun w hm => ?_⟩
  have := hb w hm
  simp [badW]; omega
end Go.Sy
namespace Go.Proofs.YtedfogpnmpmggaaDoor
open Go Go.Sy Go.RowKit
theorem el22 : El Tryd.prog 22 56 2 8 := El.of (by kernel_rfl)
theorem el23 : El Tryd.prog 23 2 1 8 := El.of (by kernel_rfl)
def bcells (l : List (Int × Int)) : List Value := l.flatMap fun x => [.int .u8 x.1, .int .u8 x.2]
theorem bcells_at (w : List (Int × Int)) (j : Nat) (h : j < w.length) : (bcells w)[j * 2]? = some (.int .u8 w[j].1) ∧ (bcells w)[j * 2 + 1]? = some (.int .u8 w[j].2) := by
  induction w generalizing j with
  | nil => simp at h
  | cons s w ih =>
    cases j with
    | zero => exact ⟨rfl, rfl⟩
    | succ j =>
      have := ih j (by simpa using h)
      simp only [bcells, List.flatMap_cons, List.cons_append, List.nil_append] at *
      rw [show (j + 1) * 2 = j * 2 + 2 by omega, show j * 2 + 2 + 1 = (j * 2 + 1) + 2 by omega]
      simpa using this
theorem c_mkW (p : Option Addr) (cap : Nat) (l : List (Int × Int)) (hl : U8ok l) : FnM Tryd.prog n_law17_Made [slv p l.length cap] (fun R => Cells R p (bcells l)) fun v mq _ => ∃ q cq, v = slv q (madeW l).length cq ∧ Row mq 56 2 q cq (madeW l).length (wcells (madeW l)) := by
  refine FnM.of S_law17_Made mx [.p p, .i l.length, .i cap] rfl rfl fun c hp => ?_
  refine .loop (fun n us m => ∃ (j : Nat) (q : Option Addr) (cq : Nat), us = [.p q, .i j, .i cq, .i j] ∧ n + j = 10 ∧ j ≤ l.length ∧ Row m 56 2 q cq j (wcells ((l.take j).map mkS))) 10 ⟨0, none, 0, rfl, rfl, Nat.zero_le _, Row.nil _ _ _⟩ ?_
  rintro n _ m _ ⟨j, q, cq, rfl, hn, hjl, hrow⟩
  refine .chk (by ((try simp only [evE, liE, letsOf, letU, snd]); (try simp only [cmE])); omega) (.ite (fun h1 => ?_) (fun h1 => .ret rfl ⟨q, cq, ?_⟩)) <;> ((try simp only [evE, liE, letsOf, letU, snd] at h1); (try simp only [cmE] at h1))
  · have hj : j < l.length := by omega
    have hc := bcells_at l j hj
    obtain ⟨b, o, hpe⟩ := hp.some (i := j * 2) (List.getElem?_eq_some_iff.1 hc.1).1
    have hw := hl l[j] (List.getElem_mem hj)
    have r1 := u8_range hw.1
    have r2 := u8_range hw.2
    refine .chk (by ((try simp only [evE, liE, letsOf, letU, snd]); (try simp only [cmE])); simp [hpe]; omega) (.chk (by ((try simp only [evE, liE, letsOf, letU, snd]); (try simp only [cmE])); simp [hpe]; omega) (.load1 (.int .u8 l[j].1) p (bcells l) (j * 2) rfl (by simp [IT.eval, Env.int]) (fun g => hp.mono g.R) hc.1 ?_))
    refine .chk (by ((try simp only [evE, liE, letsOf, letU, snd]); (try simp only [cmE])); simp [hpe]; omega) (.chk (by ((try simp only [evE, liE, letsOf, letU, snd]); (try simp only [cmE])); simp [hpe]; omega) (.load1 (.int .u8 l[j].2) p (bcells l) (j * 2 + 1) rfl (by simp [IT.eval, Env.int]) (fun g => hp.mono g.R) hc.2 ?_))
    have k1 := c_made l[j].1.toNat l[j].2.toNat (by omega) (by omega)
    have w1 : IntKind.u32.wrap l[j].1 = ((l[j].1.toNat : Nat) : Int) := by
      have := wrap_u32 l[j].1.toNat (by omega)
      rwa [Int.toNat_of_nonneg r1.1] at this ⊢
    have w2 : IntKind.u32.wrap l[j].2 = ((l[j].2.toNat : Nat) : Int) := by
      have := wrap_u32 l[j].2.toNat (by omega)
      rwa [Int.toNat_of_nonneg r2.1] at this ⊢
    refine .env (by (try simp only [liE, letsOf, letU, snd, List.append_nil]); rfl) (.callV k1 (fun _ => trivial) (.alloc fun b0 => ?_) (hargs := by rw [← w1, ← w2]; rfl))
    refine .env (by (try simp only [liE, letsOf, letU, snd, List.append_nil]); rfl) (.append (q := q) (cap := cq) (n := j) (qx := some ⟨b0, 0, none⟩) (kx := 1) (capx := 1) (news := wcells [mkS l[j]]) el22 hrow (fun g => g.cells (j := 0) rfl rfl rfl) (by simp [wcells, scell]) (by simp [wcells, scell, Value.oneCell']) (fun h => by cases h) (by simp [maxLen]; omega) (by omega) (fun q' cq' m' hr' _ _ => ?_))
    refine .again rfl ⟨n - 1, by omega, j + 1, q', cq', ?_, by omega, hj, ?_⟩
    · (simp only [evE, liE, letsOf, letU, snd, Sh.uss, Sh.us, atAddr, map_add0, List.append_nil]); rw [add_i64 j (by omega)]
    · rw [List.take_succ_eq_append_getElem hj, List.map_append, wcells_append]; exact hr'
  · have e : (l.take j).map mkS = madeW l := by
      unfold madeW
      rcases Nat.lt_or_ge j 10 with h | h
      · rw [List.take_of_length_le (by omega), List.take_of_length_le (by omega)]
      · rw [show j = 10 by omega]
    have el : (madeW l).length = j := by rw [← e]; simp; omega
    rw [el, ← e]
    exact ⟨rfl, hrow⟩
theorem c_mkC (p : Option Addr) (cap : Nat) (ws : List Int) (g : Int) (hw : ∀ z ∈ ws, (Lit.int .u16 z).wf = true) (hg : (Lit.int .u16 g).wf = true) : FnM Tryd.prog n_law17_Costs [slv p ws.length cap, .int .u16 g] (fun R => Cells R p (ws.map (.int .u16))) fun v mq _ => ∃ q cq, v = costs q (costsW ws).length cq (g % 1000) ∧ Row mq 2 1 q cq (costsW ws).length ((costsW ws).map (.int .i64)) := by
  refine FnM.of S_law17_Costs mx [.p p, .i ws.length, .i cap, .i g] rfl rfl fun c hp => .alloc fun _ => .alloc fun _ => ?_
  have rem : ∀ z : Int, 0 ≤ z → z ≤ 65535 → ar .rem .i64 (IntKind.i64.wrap z) 1000 = z % 1000 := fun z h1 h2 => by
    rw [wrap_i64 (by omega) (by omega)]
    exact Int.tmod_eq_emod_of_nonneg h1
  have hgr := u16_rng hg
  refine .loop (fun n us m => ∃ (j : Nat) (q : Option Addr) (cq : Nat), us = [.i j, .p q, .i j, .i cq, .i (g % 1000)] ∧ n + j = 24 ∧ j ≤ ws.length ∧ Row m 2 1 q cq j (((ws.take j).map fun w => w % 1000).map (.int .i64))) 24 ⟨0, none, 0, by (simp only [evE, liE, letsOf, letU, snd, Sh.uss, Sh.us, atAddr, map_add0, List.append_nil]); rw [rem g hgr.1 hgr.2]; rfl, rfl, Nat.zero_le _, Row.nil _ _ _⟩ ?_
  rintro n _ m _ ⟨j, q, cq, rfl, hn, hjl, hrow⟩
  refine .chk (by ((try simp only [evE, liE, letsOf, letU, snd]); (try simp only [cmE])); omega) (.ite (fun h1 => ?_) (fun h1 => .ret rfl ⟨q, cq, ?_⟩)) <;> ((try simp only [evE, liE, letsOf, letU, snd] at h1); (try simp only [cmE] at h1))
  · have hj : j < ws.length := by omega
    have r1 := u16_rng (hw ws[j] (List.getElem_mem hj))
    refine .elem1 (.int .u16 ws[j]) (ws.map (.int .u16)) j ws.length rfl rfl hj (fun g => hp.mono g.R) (by simp [hj]) ?_
    refine .env (by (try simp only [liE, letsOf, letU, snd, List.append_nil]); rfl) (.alloc fun b0 => .append (q := q) (cap := cq) (n := j) (qx := some ⟨b0, 0, none⟩) (kx := 1) (capx := 1) (news := [.int .i64 (ws[j] % 1000)]) el23 hrow (fun g => g.cells (j := 2) rfl rfl ?_) (by simp) (by simp [Value.oneCell']) (fun h => by cases h) (by simp [maxLen]; omega) (by omega) (fun q' cq' m' hr' _ _ => ?_))
    · rw [← rem _ r1.1 r1.2]; rfl
    refine .again rfl ⟨n - 1, by omega, j + 1, q', cq', ?_, by omega, hj, ?_⟩
    · (simp only [evE, liE, letsOf, letU, snd, Sh.uss, Sh.us, atAddr, map_add0, List.append_nil]); rw [add_i64 j (by omega)]
    · rw [List.take_succ_eq_append_getElem hj, List.map_append, List.map_append]; exact hr'
  · have e : (ws.take j).map (fun w => w % 1000) = costsW ws := by
      unfold costsW
      rcases Nat.lt_or_ge j 24 with h | h
      · rw [List.take_of_length_le (by omega), List.take_of_length_le (by omega)]
      · rw [show j = 24 by omega]
    have el : (costsW ws).length = j := by rw [← e]; simp; omega
    rw [el, ← e]
    exact ⟨rfl, hrow⟩
theorem distE_ok {ws : List Int} {gap : Int} (hc : checkC ws gap = 0) {a b : List Snd} (ha : Vok a) (hb : Vok b) : distE ws gap a b = (rst (d0 ws) gap a b, 0) := by
  unfold distE
  rw [if_neg (by simp [check2 hc ha hb])]
  show (rst (dC ws gap) gap a b, (0 : Int)) = _
  rw [rst_d0 hc ha.val hb.val]
end Go.Proofs.YtedfogpnmpmggaaDoor
