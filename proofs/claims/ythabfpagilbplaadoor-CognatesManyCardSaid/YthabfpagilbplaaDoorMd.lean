/- Chapter 19: the law Many. -/
import Derived.Test.YthabfpagilbplaaDoorMc
import Derived.Test.YthabfpagilbplaaDoorTcMany
set_option linter.unusedSimpArgs false
set_option linter.unusedVariables false
namespace Go.Sy
open Go Go.RowKit
theorem le_upd {m : Mem} {b : Nat} {o : Obj} (h : m b = none) : m.le (m.upd b o) := fun k x hk => by
  rw [Mem.upd_other _ _ (fun e => by subst e; rw [h] at hk; cases hk)]; exact hk
def wokw (w : List Snd) : Bool := w.all fun s => decide (s.1 < 4294967296) && decide (s.2 < 4294967296)
theorem wok_of1 {w : List Snd} (h : wokw w = true) : Wok w := fun s hs => by
  have := List.all_eq_true.1 h s hs
  rw [Bool.and_eq_true] at this
  exact ⟨of_decide_eq_true this.1, of_decide_eq_true this.2⟩
theorem fc {α : Type} {P : α → Prop} {a : α} {l : List α} (h : P a) (k : ∀ x ∈ l, P x) : ∀ x ∈ a :: l, P x := fun x hx => by
  rcases List.mem_cons.1 hx with rfl | hx
  · exact h
  · exact k x hx
theorem fn {α : Type} {P : α → Prop} : ∀ x ∈ ([] : List α), P x := fun x hx => by cases hx
theorem chkI {ρ : Env} {i : Nat} {I len : IT} {j n : Nat} {q : Addr} (hI : I.eval ρ = (j : Int)) (hn : len.eval ρ = (n : Int)) (hj : j < n) (hp : ρ.ptr i = some q) : (BT.pick (.cmp .geq I (.lit 0)) (.pick (.cmp .lss I len) (.some i) (.lit false)) (.lit false)).eval ρ = true := by
  simp only [BT.eval, IT.eval, hI, hn, hp, cm, pick_and]; simp; omega
def WordIn (m : Mem) (b : Nat) (w : List Snd) : Prop := ∃ e, m b = some (.cells (wcells w).toArray e (0, 0))
theorem WordIn.le' {m m' : Mem} {b : Nat} {w : List Snd} (h : WordIn m b w) (hle : m.le m') : WordIn m' b w := h.imp fun _ h => hle _ _ h
theorem WordIn.reads {m : Mem} {b : Nat} {w : List Snd} (h : WordIn m b w) {c : Cx} {L : List Nat} {ρ : Env} {blks : List Blk} (g : Good c L m) : WordAt (vw c L ρ blks m) (some ⟨b, 0, none⟩) w := fun i x hx => by
  obtain ⟨e, h⟩ := h
  exact ⟨b, 0, rfl, by rw [vw_mem g h, Nat.zero_add, List.getElem?_toArray]; exact hx⟩
section
variable {P : Program} {c : Cx} {L : List Nat} {ρ : Env} {blks : List Blk} {m : Mem} {R : Value → HW → Prop} {Dn : Nat → List U → HW → Prop} {A : List (List U → HW → Prop)}
theorem DenM.envL {P : Program} {R : Value → HW → Prop} {Dn : Nat → List U → HW → Prop} {t : Tree} {L L' : List Nat} {ρ : Env} {c : Cx} {m : Mem} {A : List (List U → HW → Prop)} (h : L = L') (hk : DenM P R Dn t L' ρ c m A) : DenM P R Dn t L ρ c m A := h ▸ hk
end
theorem cells0 {V : Mv} {p : Option Addr} : Cells V p [] := fun i x h => by simp at h
end Go.Sy
namespace Go.Proofs.YthabfpagilbplaaDoor
open Go Go.Sy Go.RowKit
theorem more_k {a : Int} (h : 0 ≤ a ∧ a < 256) : ∃ r : Nat, r < 4 ∧ ar .sub .i64 (IntKind.i64.wrap (ar .rem .u8 a 4)) 2 = (r : Int) - 2 := by
  obtain ⟨v, rfl⟩ := Int.eq_ofNat_of_zero_le h.1
  have hm : v % 4 < 4 := Nat.mod_lt _ (by decide)
  refine ⟨v % 4, hm, ?_⟩
  rw [show IntKind.i64.wrap (ar .rem .u8 (v : Int) 4) = ((v % 4 : Nat) : Int) from wrap_i64 (n := ((v % 4 : Nat) : Int)) (by omega) (by omega)]
  exact wrap_i64 (by omega) (by omega)
theorem flat2_at {α : Type} {u v : Value} {x : α} {f : α → List Value} (hf : f x = [u, v]) (n i : Nat) : ((List.replicate n x).flatMap f)[i]? = if i < n * 2 then some (if i % 2 = 0 then u else v) else none := by
  induction n generalizing i with
  | zero => simp
  | succ n ih =>
    rw [List.replicate_succ, List.flatMap_cons, hf]
    match i with
    | 0 => rw [if_pos (by omega)]; rfl
    | 1 => rw [if_pos (by omega)]; rfl
    | i + 2 =>
      rw [show ([u, v] ++ (List.replicate n x).flatMap f)[i + 2]? = ((List.replicate n x).flatMap f)[i]? by simp, ih, show (i + 2) % 2 = i % 2 by omega]
      by_cases h : i < n * 2
      · rw [if_pos h, if_pos (show i + 2 < (n + 1) * 2 by omega)]
      · rw [if_neg h, if_neg (show ¬ i + 2 < (n + 1) * 2 by omega)]
theorem made_pair {α : Type} {u v : Value} {x : α} {f : α → List Value} (hf : f x = [u, v]) (n : Nat) : (madeCells #[u, v] (n * 2)).toList = (List.replicate n x).flatMap f := by
  apply List.ext_getElem?
  intro i
  rw [flat2_at hf]
  unfold madeCells
  by_cases h : i < n * 2
  · rw [if_pos h, List.getElem?_eq_getElem (by simpa using h)]
    simp only [Array.toList_map, List.getElem_map, List.size_toArray, List.length_cons, List.length_nil]
    have e : (Array.range (n * 2)).toList[i]'(by simpa using h) = i := by simp
    rw [e]
    rcases Nat.mod_two_eq_zero_or_one i with h | h <;> simp only [h] <;> rfl
  · rw [if_neg h, List.getElem?_eq_none (by simpa using h)]
theorem made_bF {r : Nat} (_ : r < 4) : (madeCells (Value.agg #[.bool false, .slice none 0 0]).cells ((14 + r) * 2)).toList = fcells (List.replicate (14 + r) bF) := made_pair (u := .bool false) (v := .slice none 0 0) (x := bF) (f := fun x : FD => [.bool x.has, x.w.v]) rfl _
theorem made_bE {r : Nat} (_ : r < 4) : (madeCells (Value.agg #[.string ByteArray.empty, .slice none 0 0]).cells ((254 + r) * 2)).toList = ecells (List.replicate (254 + r) bE) := made_pair (u := .string ByteArray.empty) (v := .slice none 0 0) (x := bE) (f := fun x : ED => [x.g, x.v]) rfl _
theorem made_33 : bigCells Tryd.prog 56 (some 33) = wcells (List.replicate 33 (0, 0)) := by kernel_rfl
theorem bF_at {R : Mv} {n : Nat} : ∀ x ∈ List.replicate n bF, WordAt R x.w.p x.w.w := fun x hx => by rw [List.eq_of_mem_replicate hx]; exact cells0
theorem labels_is {r : Nat} (h : r < 4) (g : Nat) (pc : Option Addr) : ∃ X : List Int, (want r ≠ 0 → X.length = 0) ∧ FnM Tryd.prog n_cognates_Labels [slv (some ⟨g, 0, none⟩) (14 + r) (14 + r), costs pc 3 3 3, .agg #[.int .i64 1, .int .i64 1]] (fun R => FormsAt R (some ⟨g, 0, none⟩) (List.replicate (14 + r) bF) ∧ CostsAt R pc [2, 2, 2] ∧ TabOk R)
    fun v mq _ => ∃ q cq, v = .tuple #[slv q X.length cq, .int .i64 (want r)] ∧ RowI mq q cq X := by
  have := c_Labels (some ⟨g, 0, none⟩) (14 + r) (List.replicate (14 + r) bF) pc 3 [2, 2, 2] 3 1 1 (by simp) (by simp; omega) (fun f hf => by rw [List.eq_of_mem_replicate hf]; exact fun s hs => by cases hs) (by decide) (by decide)
  rw [List.length_replicate, (labels_many h).1] at this
  exact ⟨_, (labels_many h).2, this⟩
theorem average_is {r : Nat} (h : r < 4) (g : Nat) (pc : Option Addr) : ∃ X : List Int, (want r ≠ 0 → X.length = 0) ∧ FnM Tryd.prog n_cognates_Average [slv (some ⟨g, 0, none⟩) (14 + r) (14 + r), costs pc 3 3 3, .agg #[.int .i64 1, .int .i64 1]] (fun R => FormsAt R (some ⟨g, 0, none⟩) (List.replicate (14 + r) bF) ∧ CostsAt R pc [2, 2, 2] ∧ TabOk R)
    fun v mq _ => ∃ q cq, v = .tuple #[slv q X.length cq, .int .i64 (want r)] ∧ RowI mq q cq X := by
  have := c_Average (some ⟨g, 0, none⟩) (14 + r) (List.replicate (14 + r) bF) pc 3 [2, 2, 2] 3 1 1 (by simp) (by simp; omega) (fun f hf => by rw [List.eq_of_mem_replicate hf]; exact fun s hs => by cases hs) (by decide) (by decide)
  rw [List.length_replicate, (average_many h).1] at this
  exact ⟨_, (average_many h).2, this⟩
theorem table_is {r : Nat} (h : r < 4) (g : Nat) (pc : Option Addr) : ∃ n : Nat, (want r ≠ 0 → n = 0) ∧ FnM Tryd.prog n_cognates_Table [slv (some ⟨g, 0, none⟩) (254 + r) (254 + r), costs pc 3 3 3, .agg #[.int .i64 1, .int .i64 1]] (fun R => EntriesAt R (some ⟨g, 0, none⟩) (List.replicate (254 + r) bE) ∧ CostsAt R pc [2, 2, 2] ∧ TabOk R)
    fun v _ _ => ∃ q cq, v = .tuple #[slv q n cq, .int .i64 (want r)] := by
  have := c_Table (some ⟨g, 0, none⟩) (254 + r) (List.replicate (254 + r) bE) pc 3 [2, 2, 2] 3 1 1 (by simp; omega) (fun x hx => by rw [List.eq_of_mem_replicate hx]; rfl) (fun x hx => by rw [List.eq_of_mem_replicate hx]; exact ⟨Nat.le_refl _, by show (0 : Nat) < _; decide⟩) (fun x hx f hf => by rw [List.eq_of_mem_replicate hx] at hf; cases hf) (by decide) (by decide)
  rw [List.length_replicate, table_many h] at this
  refine ⟨(tableE [2, 2, 2] 3 (List.replicate (254 + r) bE) 1 1).1.length, fun h0 => ?_, FnM.mono this (fun _ h => h) ?_⟩
  · have := three_of h0
    subst this
    rw [show (254 + 3 : Nat) = 257 from rfl, table_none]; rfl
  · rintro v mq _ ⟨q, cq, rs, rfl, h1, _⟩
    exact ⟨q, cq, by rw [← h1, List.length_map]⟩
theorem sets_is {r : Nat} (h : r < 4) (g : Nat) : ∃ n : Nat, (want r ≠ 0 → n = 0) ∧ FnM Tryd.prog n_cognates_Sets [slv (some ⟨g, 0, none⟩) (254 + r) (254 + r)] (fun R => Cells R (some ⟨g, 0, none⟩) (intsL (List.replicate (254 + r) 0)))
    fun v _ _ => ∃ q cq, v = .tuple #[slv q n cq, .int .i64 (want r)] := by
  have := c_Sets (some ⟨g, 0, none⟩) (254 + r) (List.replicate (254 + r) 0) (by simp; omega)
  rw [List.length_replicate, sets_many h] at this
  refine ⟨(setsE (List.replicate (254 + r) 0)).1.length, fun h0 => ?_, FnM.mono this (fun _ h => h) ?_⟩
  · have := three_of h0
    subst this
    rw [show (254 + 3 : Nat) = 257 from rfl, sets_none]; rfl
  · rintro v mq _ ⟨q, cq, rs, rfl, h1, _⟩
    exact ⟨q, cq, by rw [← h1, List.length_map]⟩
theorem compare_is {r : Nat} (h : r < 4) (g k : Nat) : ∃ x y z w : Int, RetP Tryd.prog n_cognates_Compare [slv (some ⟨g, 0, none⟩) (254 + r) (254 + r), slv (some ⟨k, 0, none⟩) (254 + r) (254 + r)] (fun R => Cells R (some ⟨g, 0, none⟩) (intsL (List.replicate (254 + r) 0)) ∧ Cells R (some ⟨k, 0, none⟩) (intsL (List.replicate (254 + r) 0)))
    (.tuple #[.agg #[.int .i64 x, .int .i64 y], .agg #[.int .i64 z, .int .i64 w], .int .i64 (want r)]) := by
  have := c_Compare (some ⟨g, 0, none⟩) (some ⟨k, 0, none⟩) (254 + r) (254 + r) (List.replicate (254 + r) 0) (List.replicate (254 + r) 0) (by simp; omega) (by simp; omega)
  unfold res3V at this
  rw [List.length_replicate, compare_many h] at this
  exact ⟨_, _, _, _, this⟩
theorem cubed_is {r : Nat} (h : r < 4) (g k : Nat) : ∃ x y z w : Int, RetP Tryd.prog n_cognates_Cubed [slv (some ⟨g, 0, none⟩) 1 1, slv (some ⟨k, 0, none⟩) (254 + r) (254 + r)] (fun R => Cells R (some ⟨g, 0, none⟩) (intsL [0]) ∧ Cells R (some ⟨k, 0, none⟩) (intsL (List.replicate (254 + r) 0)))
    (.tuple #[.agg #[.int .i64 x, .int .i64 y], .agg #[.int .i64 z, .int .i64 w], .int .i64 (if r = 3 then 12 else 2)]) := by
  have := c_Cubed (some ⟨g, 0, none⟩) (some ⟨k, 0, none⟩) 1 (254 + r) [0] (List.replicate (254 + r) 0) (by simp) (by simp; omega)
  unfold res3V at this
  rw [List.length_replicate, cubed_many h] at this
  exact ⟨_, _, _, _, this⟩
theorem shared_is {r : Nat} (h : r < 4) (q p : Option Addr) (cp : Nat) : ∃ x y : Int, RetP Tryd.prog n_cognates_Shared [slv q (254 + r) (254 + r), .int .i64 0, .int .i64 1] (fun R => RowsAt R q (List.replicate (254 + r) ⟨p, cp, [1, 2]⟩)) (.tuple #[.agg #[.int .i64 x, .int .i64 y], .int .i64 (want r)]) := by
  have := c_Shared q (254 + r) (List.replicate (254 + r) ⟨p, cp, [1, 2]⟩) 0 1 (by simp; omega) (fun x hx => by rw [List.eq_of_mem_replicate hx]; show (2 : Nat) < _; decide)
  unfold fracE at this
  rw [List.length_replicate, shared_many p cp h] at this
  exact ⟨_, _, this⟩
theorem shared2_is {r : Nat} (h : r < 4) (q p : Option Addr) (cp : Nat) : ∃ x y : Int, RetP Tryd.prog n_cognates_Shared [slv q (254 + r) (254 + r), .int .i64 0, .int .i64 2] (fun R => RowsAt R q (List.replicate (254 + r) ⟨p, cp, [1, 2]⟩)) (.tuple #[.agg #[.int .i64 x, .int .i64 y], .int .i64 (if r = 3 then 12 else 3)]) := by
  have := c_Shared q (254 + r) (List.replicate (254 + r) ⟨p, cp, [1, 2]⟩) 0 2 (by simp; omega) (fun x hx => by rw [List.eq_of_mem_replicate hx]; show (2 : Nat) < _; decide)
  unfold fracE at this
  rw [List.length_replicate, shared_two p cp h] at this
  exact ⟨_, _, this⟩
def J6 (r : Nat) (us : List U) : Prop := ∃ (x : Bool) (n : Int) (q : Option Addr) (k cc : Nat) (g : Int), us = [.b x, .i (want r), .i (want r), .i n, .p q, .i k, .i cc, .i g] ∧ (want r ≠ 0 → n = 0)
def J5 (r : Nat) (us : List U) : Prop := ∃ (x : Bool) (q : Option Addr) (k cc : Nat) (g : Int), us = [.b x, .i (want r), .i (want r), .p q, .i k, .i cc, .i g]
set_option maxHeartbeats 8000000 in
theorem l_CognatesMany (a b : Int) (ha : 0 ≤ a ∧ a < 256) : RetP Tryd.prog n_law19_CognatesMany [.int .u8 a, .int .u8 b] (fun R => TabOk R) (.bool true) := by
  obtain ⟨r, hr, eK⟩ := more_k ha
  have e16 : ar .add .i64 16 (ar .sub .i64 (IntKind.i64.wrap (ar .rem .u8 a 4)) 2) = ((14 + r : Nat) : Int) := by rw [eK, addI (by omega) (by omega)]; omega
  have e256 : ar .add .i64 256 (ar .sub .i64 (IntKind.i64.wrap (ar .rem .u8 a 4)) 2) = ((254 + r : Nat) : Int) := by rw [eK, addI (by omega) (by omega)]; omega
  refine Fn.of S_law19_CognatesMany mx [.i a, .i b] rfl rfl fun c hT => .callE c_example (fun _ => trivial) ?_
  rintro v mq m1 hle hq ⟨w0, w1, w2, b7, b8, rfl, _, hC⟩
  refine ⟨[.p (some ⟨b7, 0, none⟩), .i 4, .i 4, .p (some ⟨b8, 0, none⟩), .i 3, .i 3, .i 3], uOk_of rfl, rfl, .env (by (try simp only [liE, lO, lU, snd, aN]); rfl) ?_⟩
  replace hC := hC.mono hq.mv
  clear hle hq
  refine .alloc fun b0 => .join (fun us m => us = [.i (want r)] ∧ m = m1) (.ite (fun h1 => .again rfl ⟨?_, rfl⟩) (fun h1 => .again rfl ⟨?_, rfl⟩)) ?_
  · replace h1 : cm .gtr (ar .sub .i64 (IntKind.i64.wrap (ar .rem .u8 a 4)) 2) 0 = true := h1
    rw [eK] at h1
    simp only [cm, decide_eq_true_eq] at h1
    show [U.i 12] = _
    unfold want
    rw [if_pos (by omega)]
  · replace h1 : cm .gtr (ar .sub .i64 (IntKind.i64.wrap (ar .rem .u8 a 4)) 2) 0 = false := h1
    rw [eK] at h1
    simp only [cm, decide_eq_false_iff_not] at h1
    show [U.i 0] = _
    unfold want
    rw [if_neg (by omega)]
  rintro _ m2 _ ⟨rfl, rfl⟩
  refine .env (by (try simp only [liE, lO, lU, snd, aN]); rfl) (.join (fun us _ => J6 r us) (.ite (fun _ => ?_) (fun _ => .join (fun us _ => J6 r us) (.ite (fun _ => ?_) (fun _ => .join (fun us _ => J6 r us) (.ite (fun _ => ?_) (fun _ => .join (fun us _ => J5 r us) (.ite (fun _ => ?_) (fun _ => .ite (fun _ => ?_) (fun _ => .ite (fun _ => ?_) (fun _ => ?_)))) ?_)) ?_)) ?_)) ?_)
  · -- forms
    refine .callV (c_frac 1 1) (fun _ => trivial) (.env (by (try simp only [liE, lO, lU, snd, aN]); rfl) ?_)
    refine .makeN (z := .agg #[.bool false, .slice none 0 0]) (bytes := 32) (size := 2) (14 + r) (fcells (List.replicate (14 + r) bF)) Tryd.underlying22 (by kernel_rfl) (made_bF hr) (by omega) (by simp [maxLen]; omega) (fun g1 hg1 hrow1 => ?_) (by show Value.int .i64 (ar .add .i64 16 (ar .sub .i64 (IntKind.i64.wrap (ar .rem .u8 a 4)) 2)) = _; rw [e16]) (by show Value.int .i64 (ar .add .i64 16 (ar .sub .i64 (IntKind.i64.wrap (ar .rem .u8 a 4)) 2)) = _; rw [e16])
    replace hC := hC.mono (le_upd (o := .cells (madeCells (Value.agg #[.bool false, .slice none 0 0]).cells ((14 + r) * 2)) 50 (0, 0)) hg1).mv
    generalize Mem.upd _ g1 _ = m3 at hrow1 hC ⊢
    obtain ⟨X, hX, kX⟩ := labels_is hr g1 (some ⟨b8, 0, none⟩)
    refine .env (by (try simp only [liE, lO, lU, snd, aN]); rfl) (.callI kX (fun g => ⟨⟨hrow1.reads g, bF_at⟩, hC.mono g.mv, hT.mono g.R⟩) fun q1 k1 m4 h1 _ => ?_)
    replace hC := hC.mono h1.mv
    clear hrow1 h1
    refine .env (by (try simp only [liE, lO, lU, snd, aN]); rfl) (.callV (c_frac 1 1) (fun _ => trivial) (.env (by (try simp only [liE, lO, lU, snd, aN]); rfl) ?_))
    refine .makeN (z := .agg #[.bool false, .slice none 0 0]) (bytes := 32) (size := 2) (14 + r) (fcells (List.replicate (14 + r) bF)) Tryd.underlying22 (by kernel_rfl) (made_bF hr) (by omega) (by simp [maxLen]; omega) (fun g2 hg2 hrow2 => ?_) (by show Value.int .i64 (ar .add .i64 16 (ar .sub .i64 (IntKind.i64.wrap (ar .rem .u8 a 4)) 2)) = _; rw [e16]) (by show Value.int .i64 (ar .add .i64 16 (ar .sub .i64 (IntKind.i64.wrap (ar .rem .u8 a 4)) 2)) = _; rw [e16])
    replace hC := hC.mono (le_upd (o := .cells (madeCells (Value.agg #[.bool false, .slice none 0 0]).cells ((14 + r) * 2)) 50 (0, 0)) hg2).mv
    generalize Mem.upd _ g2 _ = m5 at hrow2 hC ⊢
    obtain ⟨Y, hY, kY⟩ := average_is hr g2 (some ⟨b8, 0, none⟩)
    refine .env (by (try simp only [liE, lO, lU, snd, aN]); rfl) (.callI kY (fun g => ⟨⟨hrow2.reads g, bF_at⟩, hC.mono g.mv, hT.mono g.R⟩) fun q2 k2 m6 h1 _ => ?_)
    refine .env (by (try simp only [liE, lO, lU, snd, aN]); rfl) (.chk (by ((try simp only [evE, liE, lO, lU, snd]); (try simp only [cmE])); omega) (.chk (by ((try simp only [evE, liE, lO, lU, snd]); (try simp only [cmE])); omega) (.again rfl ⟨false, ar .add .i64 (X.length : Int) (Y.length : Int), some ⟨b8, 0, none⟩, 3, 3, 3, (by (simp only [evE, liE, lO, lU, snd, Sh.uss, Sh.us, atAddr, map_add0, List.append_nil]) <;> rfl), fun h => ?_⟩)))
    rw [hX h, hY h]; rfl
  · -- entries
    refine .callV (c_frac 1 1) (fun _ => trivial) (.env (by (try simp only [liE, lO, lU, snd, aN]); rfl) ?_)
    refine .makeN (z := .agg #[.string ByteArray.empty, .slice none 0 0]) (bytes := 40) (size := 2) (254 + r) (ecells (List.replicate (254 + r) bE)) Tryd.underlying76 (by kernel_rfl) (made_bE hr) (by omega) (by simp [maxLen]; omega) (fun g1 hg1 hrow1 => ?_) (by show Value.int .i64 (ar .add .i64 256 (ar .sub .i64 (IntKind.i64.wrap (ar .rem .u8 a 4)) 2)) = _; rw [e256]) (by show Value.int .i64 (ar .add .i64 256 (ar .sub .i64 (IntKind.i64.wrap (ar .rem .u8 a 4)) 2)) = _; rw [e256])
    replace hC := hC.mono (le_upd (o := .cells (madeCells (Value.agg #[.string ByteArray.empty, .slice none 0 0]).cells ((254 + r) * 2)) 78 (0, 0)) hg1).mv
    generalize Mem.upd _ g1 _ = m3 at hrow1 hC ⊢
    obtain ⟨X, hX, kX⟩ := table_is hr g1 (some ⟨b8, 0, none⟩)
    refine .env (by (try simp only [liE, lO, lU, snd, aN]); rfl) (.callE kX (fun g => ⟨⟨hrow1.reads g, fun x hx => by rw [List.eq_of_mem_replicate hx]; exact ⟨cells0, fun f hf => by cases hf⟩⟩, hC.mono g.mv, hT.mono g.R⟩) ?_)
    rintro v mq m4 hle hq ⟨q1, k1, rfl⟩
    refine ⟨[.p q1, .i X, .i k1, .i (want r)], uOk_of rfl, (tab_fresh _ _ _ _ _ _).symm, .env (by (try simp only [liE, lO, lU, snd, aN]); rfl) (.chk (by ((try simp only [evE, liE, lO, lU, snd]); (try simp only [cmE])); omega) (.again rfl ⟨false, X, some ⟨b8, 0, none⟩, 3, 3, 3, (by (simp only [evE, liE, lO, lU, snd, Sh.uss, Sh.us, atAddr, map_add0, List.append_nil]) <;> rfl), fun h => by rw [hX h]; rfl⟩))⟩
  · -- sets
    refine .make (z := .int .i64 0) (bytes := 8) (254 + r) Tryd.underlying30 (by kernel_rfl) rfl (by omega) (by simp [maxLen]; omega) (fun g1 hg1 hrow1 => ?_) (by show Value.int .i64 (ar .add .i64 256 (ar .sub .i64 (IntKind.i64.wrap (ar .rem .u8 a 4)) 2)) = _; rw [e256]) (by show Value.int .i64 (ar .add .i64 256 (ar .sub .i64 (IntKind.i64.wrap (ar .rem .u8 a 4)) 2)) = _; rw [e256])
    generalize Mem.upd _ g1 _ = m3 at hrow1 ⊢
    obtain ⟨X, hX, kX⟩ := sets_is hr g1
    refine .env (by (try simp only [liE, lO, lU, snd, aN]); rfl) (.callE kX (fun g => by rw [intsL, List.map_replicate]; exact hrow1.reads g) ?_)
    rintro v mq m4 hle hq ⟨q1, k1, rfl⟩
    refine ⟨[.p q1, .i X, .i k1, .i (want r)], uOk_of rfl, (tab_fresh _ _ _ _ _ _).symm, .env (by (try simp only [liE, lO, lU, snd, aN]); rfl) (.chk (by ((try simp only [evE, liE, lO, lU, snd]); (try simp only [cmE])); omega) (.again rfl ⟨false, X, some ⟨b8, 0, none⟩, 3, 3, 3, (by (simp only [evE, liE, lO, lU, snd, Sh.uss, Sh.us, atAddr, map_add0, List.append_nil]) <;> rfl), fun h => by rw [hX h]; rfl⟩))⟩
  · -- judgements
    have hmk : ∀ {g : Nat} {m : Mem}, Row m 3 1 (some ⟨g, 0, none⟩) (254 + r) (254 + r) (List.replicate (254 + r) (.int .i64 0)) → RowI m (some ⟨g, 0, none⟩) (254 + r) (List.replicate (254 + r) 0) := fun h => ⟨fun _ => by rw [List.length_replicate, intsL, List.map_replicate]; exact h, nofun, by rw [List.length_replicate]; exact Nat.le_refl _⟩
    refine .make (z := .int .i64 0) (bytes := 8) (254 + r) Tryd.underlying30 (by kernel_rfl) rfl (by omega) (by simp [maxLen]; omega) (fun g1 hg1 hrow1 => .env (by (try simp only [liE, lO, lU, snd, aN]); rfl) ?_) (by show Value.int .i64 (ar .add .i64 256 (ar .sub .i64 (IntKind.i64.wrap (ar .rem .u8 a 4)) 2)) = _; rw [e256]) (by show Value.int .i64 (ar .add .i64 256 (ar .sub .i64 (IntKind.i64.wrap (ar .rem .u8 a 4)) 2)) = _; rw [e256])
    replace hrow1 := hmk hrow1
    generalize Mem.upd _ g1 _ = m3 at hrow1 ⊢
    refine .make (z := .int .i64 0) (bytes := 8) (254 + r) Tryd.underlying30 (by kernel_rfl) rfl (by omega) (by simp [maxLen]; omega) (fun g2 hg2 hrow2 => .env (by (try simp only [liE, lO, lU, snd, aN]); rfl) ?_) (by show Value.int .i64 (ar .add .i64 256 (ar .sub .i64 (IntKind.i64.wrap (ar .rem .u8 a 4)) 2)) = _; rw [e256]) (by show Value.int .i64 (ar .add .i64 256 (ar .sub .i64 (IntKind.i64.wrap (ar .rem .u8 a 4)) 2)) = _; rw [e256])
    replace hrow2 := hmk hrow2
    replace hrow1 := hrow1.le' (le_upd (o := .cells (madeCells #[Value.int .i64 0] (254 + r)) 3 (0, 0)) hg2)
    generalize Mem.upd _ g2 _ = m4 at hrow1 hrow2 ⊢
    obtain ⟨x1, x2, x3, x4, kC⟩ := compare_is hr g1 g2
    refine .callV kC (fun g => ⟨hrow1.reads g, hrow2.reads g⟩) (.env (by (try simp only [liE, lO, lU, snd, aN]); rfl) (.alloc fun b1 => ?_))
    clear hrow1 hrow2
    refine .make (z := .int .i64 0) (bytes := 8) (254 + r) Tryd.underlying30 (by kernel_rfl) rfl (by omega) (by simp [maxLen]; omega) (fun g3 hg3 hrow3 => .env (by (try simp only [liE, lO, lU, snd, aN]); rfl) ?_) (by show Value.int .i64 (ar .add .i64 256 (ar .sub .i64 (IntKind.i64.wrap (ar .rem .u8 a 4)) 2)) = _; rw [e256]) (by show Value.int .i64 (ar .add .i64 256 (ar .sub .i64 (IntKind.i64.wrap (ar .rem .u8 a 4)) 2)) = _; rw [e256])
    replace hrow3 := hmk hrow3
    generalize Mem.upd _ g3 _ = m5 at hrow3 ⊢
    obtain ⟨y1, y2, y3, y4, kD⟩ := cubed_is hr b1 g3
    refine .callV kD (fun g => ⟨g.cells (j := 1) rfl rfl rfl, hrow3.reads g⟩) (.env (by (try simp only [liE, lO, lU, snd, aN]); rfl) ?_)
    refine .join (fun us _ => us = [.i (want r)]) (.ite (fun h2 => .again rfl ?_) (fun h2 => .again rfl ?_)) ?_
    · replace h2 : (bif cm .leq (ar .sub .i64 (IntKind.i64.wrap (ar .rem .u8 a 4)) 2) 0 then cm .eql (if r = 3 then 12 else 2 : Int) 2 else false) = true := h2
      show [U.i 0] = _
      unfold want
      by_cases h3 : r = 3
      · rw [if_pos h3, eK, h3] at h2; cases h2
      · rw [if_neg h3]
    · replace h2 : (bif cm .leq (ar .sub .i64 (IntKind.i64.wrap (ar .rem .u8 a 4)) 2) 0 then cm .eql (if r = 3 then 12 else 2 : Int) 2 else false) = false := h2
      show [U.i (if r = 3 then 12 else 2)] = _
      unfold want
      by_cases h3 : r = 3
      · rw [if_pos h3, if_pos h3]
      · rw [if_neg h3, eK, show cm .leq ((r : Int) - 2) 0 = true from decide_eq_true (by omega)] at h2; cases h2
    rintro _ _ _ rfl
    exact .env (by (try simp only [liE, lO, lU, snd, aN]); rfl) (.again rfl ⟨false, some ⟨b8, 0, none⟩, 3, 3, 3, (by (simp only [evE, liE, lO, lU, snd, Sh.uss, Sh.us, atAddr, map_add0, List.append_nil]) <;> rfl)⟩)
  · -- shares
    refine .alloc fun b1 => .alloc fun b2 => .callE (c_repL (some ⟨b2, 0, none⟩) 1 (254 + r) ⟨some ⟨b1, 0, none⟩, 2, [1, 2]⟩ nofun (by omega) (by omega)) (fun g => g.cells (j := 2) rfl rfl rfl) ?_ (hargs := by show [slv (some ⟨b2, 0, none⟩) 1 1, Value.int .i64 (ar .add .i64 256 (ar .sub .i64 (IntKind.i64.wrap (ar .rem .u8 a 4)) 2))] = _; rw [e256])
    rintro v mq m3 hle hq ⟨q1, rfl, hr1⟩
    replace hr1 := Row.le hr1 hq
    clear hle hq
    refine ⟨[.p q1, .i (254 + r : Nat), .i (254 + r : Nat)], ⟨_, _, _, rfl⟩, (slv_fresh _ _ _ _ _).symm, .env (by (try simp only [liE, lO, lU, snd, aN]); rfl) ?_⟩
    obtain ⟨x1, x2, kS⟩ := shared_is hr q1 (some ⟨b1, 0, none⟩) 2
    refine .callV kS (fun g => ⟨hr1.reads g, fun x hx => by rw [List.eq_of_mem_replicate hx]; exact g.cells (j := 1) rfl rfl rfl⟩) (.env (by (try simp only [liE, lO, lU, snd, aN]); rfl) ?_)
    clear hr1 kS
    refine .alloc fun b3 => .alloc fun b4 => .callE (c_repL (some ⟨b4, 0, none⟩) 1 (254 + r) ⟨some ⟨b3, 0, none⟩, 2, [1, 2]⟩ nofun (by omega) (by omega)) (fun g => g.cells (j := 4) rfl rfl rfl) ?_ (hargs := by show [slv (some ⟨b4, 0, none⟩) 1 1, Value.int .i64 (ar .add .i64 256 (ar .sub .i64 (IntKind.i64.wrap (ar .rem .u8 a 4)) 2))] = _; rw [e256])
    rintro v mq m4 hle hq ⟨q2, rfl, hr2⟩
    replace hr2 := Row.le hr2 hq
    clear hle hq
    refine ⟨[.p q2, .i (254 + r : Nat), .i (254 + r : Nat)], ⟨_, _, _, rfl⟩, (slv_fresh _ _ _ _ _).symm, .env (by (try simp only [liE, lO, lU, snd, aN]); rfl) ?_⟩
    obtain ⟨y1, y2, kT⟩ := shared2_is hr q2 (some ⟨b3, 0, none⟩) 2
    refine .callV kT (fun g => ⟨hr2.reads g, fun x hx => by rw [List.eq_of_mem_replicate hx]; exact g.cells (j := 3) rfl rfl rfl⟩) (.env (by (try simp only [liE, lO, lU, snd, aN]); rfl) ?_)
    clear hr2 kT
    refine .join (fun us _ => us = [.i (want r)]) (.ite (fun h2 => .again rfl ?_) (fun h2 => .again rfl ?_)) ?_
    · replace h2 : (bif cm .leq (ar .sub .i64 (IntKind.i64.wrap (ar .rem .u8 a 4)) 2) 0 then cm .eql (if r = 3 then 12 else 3 : Int) 3 else false) = true := h2
      show [U.i 0] = _
      unfold want
      by_cases h3 : r = 3
      · rw [if_pos h3, eK, h3] at h2; cases h2
      · rw [if_neg h3]
    · replace h2 : (bif cm .leq (ar .sub .i64 (IntKind.i64.wrap (ar .rem .u8 a 4)) 2) 0 then cm .eql (if r = 3 then 12 else 3 : Int) 3 else false) = false := h2
      show [U.i (if r = 3 then 12 else 3)] = _
      unfold want
      by_cases h3 : r = 3
      · rw [if_pos h3, if_pos h3]
      · rw [if_neg h3, eK, show cm .leq ((r : Int) - 2) 0 = true from decide_eq_true (by omega)] at h2; cases h2
    rintro _ _ _ rfl
    exact .env (by (try simp only [liE, lO, lU, snd, aN]); rfl) (.again rfl ⟨false, some ⟨b8, 0, none⟩, 3, 3, 3, (by (simp only [evE, liE, lO, lU, snd, Sh.uss, Sh.us, atAddr, map_add0, List.append_nil]) <;> rfl)⟩)
  · -- errors in their order
    refine .callV (c_frac 1 0) (fun _ => trivial) (.env (by (try simp only [liE, lO, lU, snd, aN]); rfl) (.allocb fun g1 hg1 _ _ => .env (by (try simp only [liE, lO, lU, snd, aN]); rfl) ?_))
    replace hC := hC.mono (le_upd (o := .cells (bigCells Tryd.prog 56 (some 33)).toArray 56 (0, 0)) hg1).mv
    have hB : WordIn (m2.upd g1 (.cells (bigCells Tryd.prog 56 (some 33)).toArray 56 (0, 0))) g1 (List.replicate 33 (0, 0)) := ⟨_, by rw [Mem.upd_same, made_33]⟩
    generalize Mem.upd _ g1 _ = m3 at hB hC ⊢
    refine .alloc fun b1 => .alloc fun b2 => .envL (by simp only [List.nil_append, List.cons_append]; rfl) ?_
    have kL := c_Labels (some ⟨b2, 0, none⟩) 2 [⟨true, ⟨some ⟨g1, 0, none⟩, 33, List.replicate 33 (0, 0)⟩⟩, ⟨false, ⟨some ⟨b1, 0, none⟩, 1, [(0, 0)]⟩⟩] (some ⟨b8, 0, none⟩) 3 [2, 2, 2] 3 1 0 (by simp) (by simp) (fc (wok_of1 (by kernel_rfl)) (fc (wok_of1 (by kernel_rfl)) fn)) (by decide) (by decide)
    rw [labels_five] at kL
    refine .callI kL (fun g => ⟨⟨g.cells (j := 2) rfl rfl rfl, fc (hB.reads g) (fc (g.cells (j := 1) rfl rfl rfl) fn)⟩, hC.mono g.mv, hT.mono g.R⟩) fun q1 k1 m4 h1 _ => .env (by (try simp only [liE, lO, lU, snd, aN]); rfl) ?_
    replace hC := hC.mono h1.mv
    clear h1 hB kL
    refine .callV (c_frac 1 0) (fun _ => trivial) (.env (by (try simp only [liE, lO, lU, snd, aN]); rfl) (.allocb fun g2 hg2 _ _ => .env (by (try simp only [liE, lO, lU, snd, aN]); rfl) ?_))
    replace hC := hC.mono (le_upd (o := .cells (bigCells Tryd.prog 56 (some 33)).toArray 56 (0, 0)) hg2).mv
    have hB : WordIn (m4.upd g2 (.cells (bigCells Tryd.prog 56 (some 33)).toArray 56 (0, 0))) g2 (List.replicate 33 (0, 0)) := ⟨_, by rw [Mem.upd_same, made_33]⟩
    generalize Mem.upd _ g2 _ = m5 at hB hC ⊢
    refine .alloc fun b3 => .envL (by simp only [List.nil_append, List.cons_append]; rfl) ?_
    have kL := c_Labels (some ⟨b3, 0, none⟩) 2 [⟨true, ⟨some ⟨g2, 0, none⟩, 33, List.replicate 33 (0, 0)⟩⟩, bF] (some ⟨b8, 0, none⟩) 3 [2, 2, 2] 3 1 0 (by simp) (by simp) (fc (wok_of1 (by kernel_rfl)) (fc (wok_of1 (by kernel_rfl)) fn)) (by decide) (by decide)
    rw [labels_long] at kL
    refine .callI kL (fun g => ⟨⟨g.cells (j := 3) rfl rfl rfl, fc (hB.reads g) (fc cells0 fn)⟩, hC.mono g.mv, hT.mono g.R⟩) fun q2 k2 m6 h1 _ => .env (by (try simp only [liE, lO, lU, snd, aN]); rfl) ?_
    clear h1 hB kL
    refine .join (fun us _ => us = [.b true]) (.yes rfl (.chk rfl (.chk rfl (.yes rfl (.callV c_works (fun g => hT.mono g.R) (.env (by (try simp only [liE, lO, lU, snd, aN]); rfl) (.again rfl rfl))))))) ?_
    rintro _ _ _ rfl
    exact .env (by (try simp only [liE, lO, lU, snd, aN]); rfl) (.ret rfl rfl)
  · -- average linkage
    refine .allocc fun g1 hg1 _ _ => ?_
    refine .env (by (try simp only [liE, lO, lU, snd, aN]); rfl) (.loop (fun n us m => ∃ i : Nat, us = [.i i] ∧ n + i = 32 ∧ m2.le m ∧ ∃ e, m g1 = some (.cells (wcells (List.replicate i (7, 0) ++ List.replicate (32 - i) (0, 0))).toArray e (0, 0))) 32 ⟨0, rfl, rfl, le_upd hg1, _, Mem.upd_same _ _ _⟩ ?_)
    rintro n _ m3 _ ⟨i, rfl, hn, hle, e, hm⟩
    refine .env (by (try simp only [liE, lO, lU, snd, aN]); rfl) (.ite (fun h2 => ?_) (fun h2 => ?_)) <;> ((try simp only [evE, liE, lO, lU, snd] at h2); (try simp only [cmE] at h2))
    · have hi : i < 32 := by omega
      have hsz : (wcells (List.replicate i (7, 0) ++ List.replicate (32 - i) (0, 0))).length = 64 := by rw [wcells_len]; simp; omega
      refine .chk (chkI rfl rfl hi rfl) (.store g1 (i * 2) _ e rfl ?_ hm (by simp only [List.size_toArray, hsz, List.length_cons, List.length_nil]; omega) (.again rfl ⟨n - 1, by omega, i + 1, ?_, by omega, fun b o hb => ?_, e, ?_⟩))
      · simp only [atAddr, IT.eval]
        show (some (⟨g1, 0, none⟩ : Addr)).map _ = _
        simp only [Option.map_some, addr_add]
        show some (Addr.mk g1 (0 + ((0 : Int) + (i : Int) * ((2 : Nat) : Int)).toNat) none) = _
        rw [show ((0 : Int) + (i : Int) * ((2 : Nat) : Int)).toNat = i * 2 by omega, Nat.zero_add]
      · (simp only [evE, liE, lO, lU, snd, Sh.uss, Sh.us, atAddr, map_add0, List.append_nil]); rw [add_i64 i (by omega)]
      · rw [Mem.upd_other _ _ (fun e => by subst e; rw [hg1] at hb; cases hb)]; exact hle b o hb
      · rw [Mem.upd_same]
        congr 3
        show putAt (wcells (List.replicate i (7, 0) ++ List.replicate (32 - i) (0, 0))) (i * 2) [.int .u32 7, .int .u32 0] = _
        have e1 : (wcells (List.replicate i (7, 0))).length = i * 2 := by rw [wcells_len, List.length_replicate]
        rw [show 32 - i = (32 - (i + 1)) + 1 by omega, List.replicate_succ, wcells_append, show wcells ((0, 0) :: List.replicate (32 - (i + 1)) (0, 0)) = [.int .u32 0, .int .u32 0] ++ wcells (List.replicate (32 - (i + 1)) (0, 0)) from rfl]
        unfold putAt
        rw [List.take_left' e1, List.length_cons, List.length_cons, List.length_nil, ← List.append_assoc, List.drop_left' (by rw [List.length_append, e1]; rfl), List.replicate_succ', List.append_assoc, wcells_append, wcells_append, List.append_assoc]
        rfl
    · have hi : i = 32 := by have := hn; omega
      subst hi
      replace hC := hC.mono hle.mv
      have hB : WordIn m3 g1 (List.replicate 32 (7, 0)) := ⟨e, by rw [hm]; rfl⟩
      clear hle hm
      refine .alloc fun b1 => .callE (c_repF (some ⟨b1, 0, none⟩) 2 (some ⟨g1, 0, none⟩) 32 nofun) (fun g => g.cells (j := 1) rfl rfl rfl) ?_
      rintro v mq m4 hle hq ⟨q1, rfl, hr1⟩
      replace hr1 := Row.le hr1 hq
      replace hC := hC.mono hle.mv
      replace hB := hB.le' hle
      clear hle hq
      refine ⟨[.p q1, .i (16 : Nat), .i (16 : Nat)], ⟨_, _, _, rfl⟩, (slv_fresh _ _ _ _ _).symm, .env (by (try simp only [liE, lO, lU, snd, aN]); rfl) ?_⟩
      have hl : (alt (some ⟨g1, 0, none⟩) 32).length = 16 := by simp [alt]
      have hok : ∀ f ∈ alt (some ⟨g1, 0, none⟩) 32, Wok f.w.w := fun f hf => by
        obtain ⟨i, _, rfl⟩ := List.mem_map.1 hf
        rw [altF_w]
        split
        · exact wok_of1 (by kernel_rfl)
        · exact fun s hs => by cases hs
      have kA := c_Average q1 16 (alt (some ⟨g1, 0, none⟩) 32) (some ⟨b8, 0, none⟩) 3 [2, 2, 2] 1073741824 9223372036854775807 9223372036854775807 (by omega) (by omega) hok (by decide) (by decide)
      have kB := c_Average q1 16 (alt (some ⟨g1, 0, none⟩) 32) (some ⟨b8, 0, none⟩) 3 [2, 2, 2] 1073741824 9223372036854775806 9223372036854775807 (by omega) (by omega) hok (by decide) (by decide)
      rw [alt_all, hl] at kA
      rw [alt_two, hl] at kB
      have hfm : ∀ {m : Mem} {L : List Nat} {ρ : Env} {blks : List Blk}, Row m 50 2 q1 16 16 (fcells (alt (some ⟨g1, 0, none⟩) 32)) → WordIn m g1 (List.replicate 32 (7, 0)) → Go.Sy.Good c L m → FormsAt (vw c L ρ blks m) q1 (alt (some ⟨g1, 0, none⟩) 32) := fun h1 h2 g => ⟨h1.reads g, fun f hf => by
        obtain ⟨i, _, rfl⟩ := List.mem_map.1 hf
        unfold altF
        split
        · exact h2.reads g
        · exact cells0⟩
      refine .callV (c_frac 9223372036854775807 9223372036854775807) (fun _ => trivial) (.env (by (try simp only [liE, lO, lU, snd, aN]); rfl) ?_)
      refine .callI (x := lb15) (e := 0) kA (fun g => ⟨hfm hr1 hB g, hC.mono g.mv, hT.mono g.R⟩) fun qx cx m5 h1 hx => .env (by (try simp only [liE, lO, lU, snd, aN]); rfl) ?_
      replace hr1 := Row.le hr1 h1
      replace hB := hB.le' h1
      replace hC := hC.mono h1.mv
      clear h1 kA
      refine .callV (c_frac 9223372036854775806 9223372036854775807) (fun _ => trivial) (.env (by (try simp only [liE, lO, lU, snd, aN]); rfl) ?_)
      refine .callI (x := lb14) (e := 0) kB (fun g => ⟨hfm hr1 hB g, hC.mono g.mv, hT.mono g.R⟩) fun qy cy m6 h1 hy => .env (by (try simp only [liE, lO, lU, snd, aN]); rfl) ?_
      replace hx := hx.le' h1
      clear h1 kB hr1 hB hC hfm
      refine .join (fun us mm => us = [.b false] ∧ mm = m6) (.no rfl (.alloc fun b2 => .callV (c_eqI qx (some ⟨b2, 0, none⟩) cx 16 lb15 (List.replicate 16 0) (by decide)) (fun g => ⟨hx.reads g, g.cells (j := 2) rfl rfl rfl⟩) (.env (by (try simp only [liE, lO, lU, snd, aN]); rfl) (.again rfl ⟨?_, rfl⟩)))) ?_
      · (simp only [evE, liE, lO, lU, snd, Sh.uss, Sh.us, atAddr, map_add0, List.append_nil])
        rw [show decide (lb15 = List.replicate 16 0) = true by kernel_rfl]; rfl
      rintro _ m7 _ ⟨rfl, rfl⟩
      refine .env (by (try simp only [liE, lO, lU, snd, aN]); rfl) (.no rfl (.chk rfl (.loop (fun n us mm => ∃ (y : Bool) (i : Nat), us = [.b y, .i i] ∧ mm = m7 ∧ n + i = 16) 16 ⟨false, 0, rfl, rfl, rfl⟩ ?_)))
      rintro n _ m8 _ ⟨y, i, rfl, rfl, hn⟩
      refine .env (by (try simp only [liE, lO, lU, snd, aN]); rfl) (.ite (fun h2 => ?_) (fun h2 => .callV c_works (fun g => hT.mono g.R) (.env (by (try simp only [liE, lO, lU, snd, aN]); rfl) (.ret rfl rfl))))
      replace h2 : cm .lss (i : Int) ((lb14.length : Nat) : Int) = true := h2
      have hi : i < 16 := by
        have : (i : Int) < ((lb14.length : Nat) : Int) := by simpa [cm] using h2
        have h16 : lb14.length = 16 := rfl
        omega
      have hv : lb14[i]'hi = ((i % 2 : Nat) : Int) := by
        have : ∀ i (hi : i < 16), lb14[i]'hi = ((i % 2 : Nat) : Int) := by decide
        exact this i hi
      refine .elem1 (.int .i64 (lb14[i]'hi)) (intsL lb14) i 16 rfl rfl hi (fun g => hy.reads g) (by unfold intsL; rw [List.getElem?_map, List.getElem?_eq_getElem (show i < lb14.length from hi)]; rfl) (.env (by (try simp only [liE, lO, lU, snd, aN]); rfl) (.no ?_ (.again rfl ⟨n - 1, by omega, y, i + 1, ?_, rfl, by omega⟩)))
      · show cm .neq (lb14[i]'hi) (ar .rem .i64 (i : Int) 2) = false
        rw [hv, show ar .rem .i64 (i : Int) 2 = ((i % 2 : Nat) : Int) from rfl]
        simp [cm]
      · (simp only [evE, liE, lO, lU, snd, Sh.uss, Sh.us, atAddr, map_add0, List.append_nil]); rw [add_i64 i (by omega)]
  · rintro _ m _ ⟨x, q, k, cc, g, rfl⟩
    exact .env (by (try simp only [liE, lO, lU, snd, aN]); rfl) (.again rfl ⟨x, 0, q, k, cc, g, (by (simp only [evE, liE, lO, lU, snd, Sh.uss, Sh.us, atAddr, map_add0, List.append_nil]) <;> rfl), fun _ => rfl⟩)
  · rintro _ m _ ⟨x, n, q, k, cc, g, rfl, h⟩
    exact .env (by (try simp only [liE, lO, lU, snd, aN]); rfl) (.again rfl ⟨x, n, q, k, cc, g, (by (simp only [evE, liE, lO, lU, snd, Sh.uss, Sh.us, atAddr, map_add0, List.append_nil]) <;> rfl), h⟩)
  · rintro _ m _ ⟨x, n, q, k, cc, g, rfl, h⟩
    exact .env (by (try simp only [liE, lO, lU, snd, aN]); rfl) (.again rfl ⟨x, n, q, k, cc, g, (by (simp only [evE, liE, lO, lU, snd, Sh.uss, Sh.us, atAddr, map_add0, List.append_nil]) <;> rfl), h⟩)
  · rintro _ m _ ⟨x, n, q, k, cc, g, rfl, h⟩
    refine .env (by (try simp only [liE, lO, lU, snd, aN]); rfl) (.join (fun us _ => us = [.b true]) (.ite (fun h1 => .yes ?_ (.callV c_works (fun g => hT.mono g.R) (.env (by (try simp only [liE, lO, lU, snd, aN]); rfl) (.again rfl rfl)))) (fun h1 => .yes ?_ (.yes ?_ (.callV c_works (fun g => hT.mono g.R) (.env (by (try simp only [liE, lO, lU, snd, aN]); rfl) (.again rfl rfl)))))) ?_)
    · show (bif (bif cm .eql (want r) (want r) then cm .eql (want r) (want r) else false) then true else false) = true
      simp [cm]
    · show (bif cm .eql (want r) (want r) then cm .eql (want r) (want r) else false) = true
      simp [cm]
    · replace h1 : cm .eql (want r) 0 = false := h1
      show cm .eql n 0 = true
      rw [h (by intro h0; rw [h0] at h1; cases h1)]; rfl
    rintro _ _ _ rfl
    exact .env (by (try simp only [liE, lO, lU, snd, aN]); rfl) (.ret rfl rfl)
end Go.Proofs.YthabfpagilbplaaDoor
