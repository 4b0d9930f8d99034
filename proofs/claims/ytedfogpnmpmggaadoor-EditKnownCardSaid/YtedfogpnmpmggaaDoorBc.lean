/- edit.Longest and what it takes from check. -/
import Derived.Test.YtedfogpnmpmggaaDoorBb
import Derived.Test.YtedfogpnmpmggaaDoorBa
import Derived.Test.YtedfogpnmpmggaaDoorTc
set_option linter.unusedSimpArgs false
set_option linter.unusedVariables false
/- edit.Longest and what it takes from check. -/
namespace Go.Sy
open Go
def LA (a b : List Snd) (i j : Nat) : Nat := lcs (a.drop i) (b.drop j)
theorem lcs_nilR (a : List Snd) : lcs a [] = 0 := by cases a <;> rfl
theorem LA_out {a b : List Snd} {i j : Nat} (h : a.length ≤ i ∨ b.length ≤ j) : LA a b i j = 0 := by
  unfold LA
  rcases h with h | h
  · rw [List.drop_of_length_le h]; rfl
  · rw [List.drop_of_length_le h]; exact lcs_nilR _
theorem LA_in {a b : List Snd} {i j : Nat} (hi : i < a.length) (hj : j < b.length) : LA a b i j = if a[i] = b[j] then 1 + LA a b (i + 1) (j + 1) else max (LA a b (i + 1) j) (LA a b i (j + 1)) := by
  unfold LA
  rw [List.drop_eq_getElem_cons hi, List.drop_eq_getElem_cons hj, lcs_cc]
theorem LA_le (a b : List Snd) (i j : Nat) : LA a b i j ≤ a.length := by
  have := (lcs_le (a.drop i) (b.drop j)).1
  simp at this
  unfold LA; omega
def longE (a b : List Snd) : Int × Int := if checkL [a, b] ≠ 0 then (0, checkL [a, b]) else ((lcs a b : Int), 0)
theorem checkL_two {a b : List Snd} (h : checkL [a, b] = 0) : checkW a = 0 ∧ checkW b = 0 := by
  unfold checkL at h
  split at h
  · omega
  · unfold checkL at h
    split at h
    · omega
    · omega
theorem snd_eq {s t : Snd} : ((s.1 : Int) = (t.1 : Int) ∧ (s.2 : Int) = (t.2 : Int)) ↔ s = t := by
  constructor
  · rintro ⟨h1, h2⟩; exact Prod.ext (by omega) (by omega)
  · rintro rfl; exact ⟨rfl, rfl⟩
theorem checkE_nil (l : List (List Snd)) : checkE [] 0 l = checkL l := by unfold checkE; rw [if_neg (by decide)]
end Go.Sy
namespace Go.Proofs.YtedfogpnmpmggaaDoor
open Go Go.Sy Go.RowKit
/-- Words laid into a row of the call's own. -/
theorem wordsAt_of {V : Mv} {q : Option Addr} {l : List WD} (h1 : Cells V q (l.map WD.v)) (h2 : ∀ x ∈ l, WordAt V x.p x.w) : WordsAt V q l := ⟨h1, h2⟩
theorem big96 : bigCells Tryd.prog 96 none = List.replicate 1089 (.int .i64 0) := by kernel_rfl
theorem c_longest (p q : Option Addr) (capp capq : Nat) (a b : List Snd) (ha : Wok a) (hb : Wok b) : RetP Tryd.prog n_edit_Longest [slv p a.length capp, slv q b.length capq] (fun R => WordAt R p a ∧ WordAt R q b) (.tuple #[.int .i64 (longE a b).1, .int .i64 (longE a b).2]) := by
  refine Fn.of S_edit_Longest mx [.p p, .i a.length, .i capp, .p q, .i b.length, .i capq] rfl rfl fun c hp => .alloc fun b0 => ?_
  refine .callV (c_editCheck none 0 [] 0 (some ⟨b0, 0, none⟩) 2 [⟨p, capp, a⟩, ⟨q, capq, b⟩] (by simp [ha, hb]) (by simp)) (fun g => ⟨fun i x hx => by simp at hx, fun i x hx => ⟨b0, 0, rfl, ?_⟩, ?_⟩) (.ite (fun h1 => .ret rfl ?_) (fun h1 => ?_))
  · rw [g.at (j := 0) rfl rfl, Nat.zero_add]; exact hx
  · simp only [List.mem_cons, List.not_mem_nil, or_false]
    rintro x (rfl | rfl)
    · exact hp.1.mono g.R
    · exact hp.2.mono g.R
  · ((try simp only [evE, liE, letsOf, letU, snd] at h1); (try simp only [cmE] at h1)); rw [checkE_nil] at h1
    replace h1 : checkL [a, b] ≠ 0 := h1
    ((try simp only [evE, liE, letsOf, letU, snd]); (try simp only [cmE])); simp only [longE]; rw [if_pos h1, checkE_nil]; rfl
  ((try simp only [evE, liE, letsOf, letU, snd] at h1); (try simp only [cmE] at h1))
  rw [checkE_nil] at h1 ⊢
  replace h1 : checkL [a, b] = 0 := h1
  have hl : longE a b = ((lcs a b : Int), 0) := by unfold longE; rw [if_neg (by simpa using h1)]
  obtain ⟨la, va⟩ := checkW_zero (checkL_two h1).1
  obtain ⟨lb, vb⟩ := checkW_zero (checkL_two h1).2
  rw [show checkL (List.map (fun x : WD => x.w) [⟨p, capp, a⟩, ⟨q, capq, b⟩]) = 0 from h1]
  refine .env (by (try simp only [liE, letsOf, letU, snd, List.append_nil]); rfl) (.allocb fun t _ _ _ => ?_)
  rw [big96, ← List.nil_append (List.replicate 1089 (Value.int .i64 0)), ← gcells_zero]
  refine .chk (by ((try simp only [evE, liE, letsOf, letU, snd]); (try simp only [cmE])); omega) ?_
  refine .loop (fun n us m => ∃ (i : Nat) (f : Nat → Nat → Int), us = [.i ((i : Int) - 1)] ∧ i = n ∧ i ≤ a.length ∧ m t = some (.cells (gcells [] .i64 f).toArray 96 (0, 0)) ∧ ∀ i' j', i' < 33 → j' < 33 → (i ≤ i' ∨ b.length ≤ j') → f i' j' = LA a b i' j') a.length
    ⟨a.length, fun _ _ => 0, ?_, rfl, Nat.le_refl _, Mem.upd_same .., fun i' j' _ _ h => by rw [LA_out h]; rfl⟩ ?_
  · show [U.i (ar .sub .i64 (a.length : Int) 1)] = _
    rw [subI (by omega) (by omega)]
  rintro n _ m _ ⟨i, f, rfl, rfl, hia, hm, hf⟩
  refine .ite (fun h2 => ?_) (fun h2 => ?_) <;> ((try simp only [evE, liE, letsOf, letU, snd] at h2); (try simp only [cmE] at h2))
  · obtain ⟨r, rfl⟩ : ∃ r, i = r + 1 := ⟨i - 1, by omega⟩
    rw [show ((r + 1 : Nat) : Int) - 1 = (r : Int) by omega]
    refine .chk (by ((try simp only [evE, liE, letsOf, letU, snd]); (try simp only [cmE])); omega) (.loop (fun n us m => ∃ (j : Nat) (f : Nat → Nat → Int), us = [.i ((j : Int) - 1)] ∧ j = n ∧ j ≤ b.length ∧ m t = some (.cells (gcells [] .i64 f).toArray 96 (0, 0)) ∧ ∀ i' j', i' < 33 → j' < 33 → (r + 1 ≤ i' ∨ (i' = r ∧ j ≤ j') ∨ b.length ≤ j') → f i' j' = LA a b i' j') b.length
      ⟨b.length, f, ?_, rfl, Nat.le_refl _, hm, fun i' j' q1 q2 h => hf i' j' q1 q2 (by omega)⟩ ?_)
    · show [U.i (ar .sub .i64 (b.length : Int) 1)] = _
      rw [subI (by omega) (by omega)]
    clear hf hm f
    rintro n _ m _ ⟨j, f, rfl, rfl, hjb, hm, hf⟩
    refine .ite (fun h3 => ?_) (fun h3 => ?_) <;> ((try simp only [evE, liE, letsOf, letU, snd] at h3); (try simp only [cmE] at h3))
    · obtain ⟨s, rfl⟩ : ∃ s, j = s + 1 := ⟨j - 1, by omega⟩
      rw [show ((s + 1 : Nat) : Int) - 1 = (s : Int) by omega]
      have er := add_i64 r (by omega)
      have es := add_i64 s (by omega)
      have cells : ∀ {L : List Nat} {ρ : Env} {blks : List Blk} {m : Mem} {f : Nat → Nat → Int}, m t = some (.cells (gcells [] .i64 f).toArray 96 (0, 0)) → Good c L m → Cells (vw c L ρ blks m) (some ⟨t, 0, none⟩) (gcells [] .i64 f) := fun hm g k x hx => ⟨t, 0, rfl, by rw [vw_mem g hm, Nat.zero_add]; simpa using hx⟩
      have e1 := hf (r + 1) s (by omega) (by omega) (by omega)
      have e2 := hf r (s + 1) (by omega) (by omega) (by omega)
      have e3 := hf (r + 1) (s + 1) (by omega) (by omega) (by omega)
      have b1 := LA_le a b (r + 1) s
      have b2 := LA_le a b r (s + 1)
      have b3 := LA_le a b (r + 1) (s + 1)
      have hin := LA_in (a := a) (b := b) (i := r) (j := s) (by omega) (by omega)
      refine .loadG t [] f (r + 1) s rfl (by omega) (by omega) rfl (fun g => cells hm g) (hI := er) (.loadG t [] f r (s + 1) rfl (by omega) (by omega) rfl (fun g => cells hm g) (hJ := es) ?_)
      refine .storeG t 96 [] f r s (max (LA a b (r + 1) s) (LA a b r (s + 1)) : Nat) rfl (by omega) (by omega) rfl hm ?_ ?_
      · show (if f r (s + 1) > f (r + 1) s then f r (s + 1) else f (r + 1) s) = _
        rw [e1, e2]; split <;> omega
      refine .loadW a r (by omega) (fun g => hp.1.mono g.R) (.loadW b s (by omega) (fun g => hp.2.mono g.R) (.ite (fun h4 => ?_) (fun h4 => ?_)))
      · ((try simp only [evE, liE, letsOf, letU, snd] at h4); (try simp only [cmE] at h4))
        have heq := snd_eq.1 h4
        rw [if_pos heq] at hin
        refine .loadG t [] _ (r + 1) (s + 1) rfl (by omega) (by omega) rfl (fun g => cells (Mem.upd_same ..) g) (hI := er) (hJ := es) ?_
        refine .storeG t 96 [] _ r s (LA a b r s) rfl (by omega) (by omega) rfl (Mem.upd_same ..) ?_ (.again rfl ⟨s, by omega, s, _, ?_, rfl, by omega, Mem.upd_same .., fun i' j' q1 q2 h => ?_⟩)
        · show ar .add .i64 1 (upd2 f r s _ (r + 1) (s + 1)) = _
          rw [show ∀ v, upd2 f r s v (r + 1) (s + 1) = f (r + 1) (s + 1) from fun v => if_neg (by omega), e3, addI (by omega) (by omega), hin]; omega
        · (simp only [evE, liE, letsOf, letU, snd, Sh.uss, Sh.us, atAddr, map_add0, List.append_nil]); rw [subI (by omega) (by omega)]
        · by_cases hc : i' = r ∧ j' = s
          · rw [upd2, if_pos hc, hc.1, hc.2]
          · rw [upd2, if_neg hc, upd2, if_neg hc]; exact hf i' j' q1 q2 (by omega)
      · ((try simp only [evE, liE, letsOf, letU, snd] at h4); (try simp only [cmE] at h4))
        rw [if_neg (fun e => by have := snd_eq.2 e; simp [this.1, this.2] at h4)] at hin
        refine .again rfl ⟨s, by omega, s, _, ?_, rfl, by omega, Mem.upd_same .., fun i' j' q1 q2 h => ?_⟩
        · (simp only [evE, liE, letsOf, letU, snd, Sh.uss, Sh.us, atAddr, map_add0, List.append_nil]); rw [subI (by omega) (by omega)]
        · by_cases hc : i' = r ∧ j' = s
          · rw [upd2, if_pos hc, hc.1, hc.2, hin]
          · rw [upd2, if_neg hc]; exact hf i' j' q1 q2 (by omega)
    · refine .again rfl ⟨r, by omega, r, f, ?_, rfl, by omega, hm, fun i' j' q1 q2 h => hf i' j' q1 q2 (by omega)⟩
      (simp only [evE, liE, letsOf, letU, snd, Sh.uss, Sh.us, atAddr, map_add0, List.append_nil]); rw [subI (by omega) (by omega)]
  · have h0 : i = 0 := by omega
    subst h0
    have e0 := hf 0 0 (by omega) (by omega) (by omega)
    refine .chk rfl (.chk rfl (.load1 (.int .i64 (f 0 0)) (some ⟨t, 0, none⟩) (gcells [] .i64 f) 0 rfl rfl (fun g k x hx => ⟨t, 0, rfl, by rw [vw_mem g hm, Nat.zero_add]; simpa using hx⟩) (gcells_at [] .i64 f 0 0 (by omega) (by omega)) (.ret rfl ?_)))
    rw [hl, e0]; rfl
end Go.Proofs.YtedfogpnmpmggaaDoor
/- The steps of alignments, as edit goes over them. -/
namespace Go.Sy
open Go Go.RowKit
section
variable {P : Program} {c : Cx} {L : List Nat} {ρ : Env} {blks : List Blk} {m : Mem} {R : Value → HW → Prop} {Dn : Nat → List U → HW → Prop} {A : List (List U → HW → Prop)}
theorem DenM.loadB {i : Nat} {s : Sh} {k : Tree} (v : Value) (b : Nat) (e : TypeId) (hp : ρ.ptr i = some ⟨b, 0, none⟩) (hm : m b = some (box e v)) (hk : DenM P R Dn k L (ρ ++ letU v) c m A)
    (hus : Sh.eats [s] (letU v) = some [] := by rfl) (hv : SV.dens L (ρ ++ letU v) (Sh.freshs [s] ρ.length).1 = [v] := by rfl) : DenM P R Dn (.load i (.lit 0) [s] blks k) L ρ c m A :=
  .load1 v (some ⟨b, 0, none⟩) [v] 0 hp rfl (fun g i x hx => ⟨b, 0, rfl, by rw [vw_mem g hm, Nat.zero_add]; simpa using hx⟩) rfl hk hus hv
/-- A slice's value at a known place. -/
theorem DenM.loadS {i : Nat} {off : IT} {k : Tree} (xs : List Value) (j : Nat) (q : Option Addr) (kn cap : Nat) (ho : off.eval ρ = (j : Int)) (hx : xs[j]? = some (slv q kn cap)) (hw : Good c L m → Cells (vw c L ρ blks m) (ρ.ptr i) xs) (hk : DenM P R Dn k L (ρ ++ [.p q, .i kn, .i cap]) c m A) :
    DenM P R Dn (.load i off [.sl] blks k) L ρ c m A := by
  refine .loadC [.p q, .i kn, .i cap] (ρ.ptr i) xs j rfl ho rfl hw (List.getElem?_eq_some_iff.1 hx).1 (fun q' v hv => ?_) hk
  match q', hv with
  | 0, hv =>
    simp only [Sh.freshs, SV.dens] at hv
    rw [slv_fresh] at hv
    simp only [List.getElem?_cons_zero, Option.some.injEq] at hv
    rw [← hv]; exact hx
  | q' + 1, hv => simp [Sh.freshs, SV.dens] at hv
/-- Costs at a known place. -/
theorem DenM.loadCost {i : Nat} {off : IT} {k : Tree} (xs : List Value) (j : Nat) (q : Option Addr) (kn cap : Nat) (gap : Int) (ho : off.eval ρ = (j : Int)) (hx : xs[j]? = some (slv q kn cap)) (hx' : xs[j + 1]? = some (.int .i64 gap)) (hw : Good c L m → Cells (vw c L ρ blks m) (ρ.ptr i) xs) (hk : DenM P R Dn k L (ρ ++ [.p q, .i kn, .i cap, .i gap]) c m A) :
    DenM P R Dn (.load i off [.sl, .int .i64] blks k) L ρ c m A := by
  refine .loadC [.p q, .i kn, .i cap, .i gap] (ρ.ptr i) xs j rfl ho rfl hw (List.getElem?_eq_some_iff.1 hx).1 (fun q' v hv => ?_) hk
  have h1 : (Sh.sl.fresh ρ.length).1.den L (ρ ++ [.p q, .i kn, .i cap, .i gap]) = slv q kn cap := by
    simp only [Sh.fresh, SV.den, IT.eval, atAddr, slv]
    have e0 := getElem_env ρ [.p q, .i kn, .i cap, .i gap] 0
    have e1 := getElem_env ρ [.p q, .i kn, .i cap, .i gap] 1
    have e2 := getElem_env ρ [.p q, .i kn, .i cap, .i gap] 2
    simp only [Env.ptr, Env.int, Nat.add_zero] at *
    rw [e0, e1, e2]
    cases q <;> simp [addr_zero]
  have h2 : (ρ ++ [.p q, .i kn, .i cap, .i gap])[ρ.length + 3]? = some (U.i gap) := getElem_env ρ _ 3
  match q', hv with
  | 0, hv =>
    simp only [Sh.freshs, SV.dens] at hv
    rw [h1] at hv
    simp only [List.getElem?_cons_zero, Option.some.injEq] at hv
    rw [← hv]; exact hx
  | 1, hv =>
    simp only [Sh.freshs, Sh.fresh, SV.dens, SV.den, IT.eval, Env.int, List.getElem?_cons_succ, List.getElem?_cons_zero, Option.some.injEq] at hv
    rw [h2] at hv
    rw [← hv]; exact hx'
  | q' + 2, hv => simp [Sh.freshs, SV.dens] at hv
end
/-- What a table of edit is made for. -/
structure TD where
  tb : Nat
  A : WD
  B : WD
  pc : Option Addr
  cc : Nat
  ws : List Int
  gap : Int
def TD.d (T : TD) : Snd → Snd → Int := fun x y => (distC x y T.ws T.gap).1
def TD.hd (T : TD) : List Value := [T.A.v, T.B.v, slv T.pc T.ws.length T.cc, .int .i64 T.gap]
structure TD.ok (T : TD) : Prop where
  a : Wok T.A.w
  b : Wok T.B.w
  la : T.A.w.length ≤ 32
  lb : T.B.w.length ≤ 32
  va : ∀ s ∈ T.A.w, valid s = true
  vb : ∀ s ∈ T.B.w, valid s = true
  cost : checkC T.ws T.gap = 0
def TD.R (T : TD) (i j : Nat) : Int := RA T.d T.gap T.A.w T.B.w i j
def TD.steps (T : TD) (i j : Nat) : List Stp := stepsA T.d T.gap T.A.w T.B.w i j
theorem distC_pos {x y : Snd} {ws : List Int} {gap : Int} (hc : checkC ws gap = 0) : 0 ≤ (distC x y ws gap).1 ∧ (distC x y ws gap).1 ≤ 1073741824 * 24 := by
  obtain ⟨h1, _, _, h4⟩ := checkC_zero hc
  unfold distC
  split
  · simp
  · rw [if_neg (by simp [hc])]
    have := sumW_bound (diffS x y) ws h4
    simp only
    omega
theorem TD.ok.gap {T : TD} (h : T.ok) : 0 ≤ T.gap ∧ T.gap ≤ 1073741824 := ⟨(checkC_zero h.cost).2.1, (checkC_zero h.cost).2.2.1⟩
theorem TD.ok.R_bound {T : TD} (h : T.ok) (i j : Nat) : 0 ≤ T.R i j ∧ T.R i j ≤ 1073741824 * 64 := by
  have hg := h.gap
  refine ⟨rst_pos hg.1 (fun x y => (distC_pos h.cost).1) _ _, ?_⟩
  have h1 := rst_le (d := T.d) (g := T.gap) (T.A.w.drop i) (T.B.w.drop j)
  have h2 : T.gap * (((T.A.w.drop i).length + (T.B.w.drop j).length : Nat) : Int) ≤ 1073741824 * 64 := by
    refine Int.le_trans (Int.mul_le_mul_of_nonneg_right hg.2 (by omega)) ?_
    have := h.la; have := h.lb
    simp; omega
  exact Int.le_trans h1 h2
end Go.Sy
namespace Go.Proofs.YtedfogpnmpmggaaDoor
open Go Go.Sy Go.RowKit
def TD.at (T : TD) (V : Mv) : Prop := Cells V (some ⟨T.tb, 0, none⟩) T.hd ∧ WordAt V T.A.p T.A.w ∧ WordAt V T.B.p T.B.w ∧ CostsAt V T.pc T.ws ∧ TabOk V
theorem TD.at.mono {T : TD} {V V' : Mv} (h : TD.at T V) (hle : V.le V') : TD.at T V' := ⟨h.1.mono hle, h.2.1.mono hle, h.2.2.1.mono hle, h.2.2.2.1.mono hle, h.2.2.2.2.mono hle⟩
/-- The variables that the two iterators hold. -/
def box3 (b0 b1 b2 : Nat) (tb : Nat) (i j : Int) : Mem := ((Mem.emp.upd b2 (box 3 (.int .i64 j))).upd b1 (box 3 (.int .i64 i))).upd b0 (box 73 (.pointer (some ⟨tb, 0, none⟩)))
theorem box3_0 {b0 b1 b2 tb : Nat} {i j : Int} : box3 b0 b1 b2 tb i j b0 = some (box 73 (.pointer (some ⟨tb, 0, none⟩))) := Mem.upd_same ..
theorem box3_1 {b0 b1 b2 tb : Nat} {i j : Int} (h : b0 ≠ b1) : box3 b0 b1 b2 tb i j b1 = some (box 3 (.int .i64 i)) := by unfold box3; rw [Mem.upd_other _ _ (Ne.symm h), Mem.upd_same]
theorem box3_2 {b0 b1 b2 tb : Nat} {i j : Int} (h : b0 ≠ b2) (h' : b1 ≠ b2) : box3 b0 b1 b2 tb i j b2 = some (box 3 (.int .i64 j)) := by unfold box3; rw [Mem.upd_other _ _ (Ne.symm h), Mem.upd_other _ _ (Ne.symm h'), Mem.upd_same]
theorem c_steps (tb : Nat) (i j : Int) : FnM Tryd.prog n___edit_table__steps [.pointer (some ⟨tb, 0, none⟩), .int .i64 i, .int .i64 j] (fun _ => True) fun v mq _ => ∃ b0 b1 b2, v = .func (.func n___edit_table__steps_1) #[] #[.pointer (some ⟨b1, 0, none⟩), .pointer (some ⟨b0, 0, none⟩), .pointer (some ⟨b2, 0, none⟩)] ∧ mq = box3 b0 b1 b2 tb i j ∧ b0 ≠ b1 ∧ b0 ≠ b2 ∧ b1 ≠ b2 :=
  FnM.of S___edit_table__steps mx [.p (some ⟨tb, 0, none⟩), .i i, .i j] rfl rfl fun c _ => .alloc fun b0 => .alloc fun b1 => .alloc fun b2 => .retL rfl fun g => ⟨b0, b1, b2, rfl, rfl, by
    have := g.nd
    simp at this
    omega⟩
theorem c_cheapest (tb : Nat) (i j : Int) : FnM Tryd.prog n___edit_table__cheapest [.pointer (some ⟨tb, 0, none⟩), .int .i64 i, .int .i64 j] (fun _ => True) fun v mq _ => ∃ b0 b1 b2, v = .func (.func n___edit_table__cheapest_1) #[] #[.pointer (some ⟨b0, 0, none⟩), .pointer (some ⟨b1, 0, none⟩), .pointer (some ⟨b2, 0, none⟩)] ∧ mq = box3 b0 b1 b2 tb i j ∧ b0 ≠ b1 ∧ b0 ≠ b2 ∧ b1 ≠ b2 :=
  FnM.of S___edit_table__cheapest mx [.p (some ⟨tb, 0, none⟩), .i i, .i j] rfl rfl fun c _ => .alloc fun b0 => .alloc fun b1 => .alloc fun b2 => .retL rfl fun g => ⟨b0, b1, b2, rfl, rfl, by
    have := g.nd
    simp at this
    omega⟩
def stepU (x : Stp) : List U := [.i (x.1 : Int), .i (x.2.1 : Int), .i x.2.2]
def stepV (x : Stp) : Value := .agg #[.int .i64 (x.1 : Int), .int .i64 (x.2.1 : Int), .int .i64 x.2.2]
def st1 (T : TD) (i j : Nat) : List Stp := if h : i < T.A.w.length ∧ j < T.B.w.length then [(i + 1, j + 1, T.d T.A.w[i] T.B.w[j])] else []
def st2 (T : TD) (i j : Nat) : List Stp := if i < T.A.w.length then [(i + 1, j, T.gap)] else []
def st3 (T : TD) (i j : Nat) : List Stp := if j < T.B.w.length then [(i, j + 1, T.gap)] else []
theorem steps_parts (T : TD) (i j : Nat) : T.steps i j = st1 T i j ++ (st2 T i j ++ st3 T i j) := by
  unfold TD.steps stepsA st1 st2 st3
  rcases Nat.lt_or_ge i T.A.w.length with hi | hi <;> rcases Nat.lt_or_ge j T.B.w.length with hj | hj
  · rw [List.getElem?_eq_getElem hi, List.getElem?_eq_getElem hj, dif_pos ⟨hi, hj⟩, if_pos hi, if_pos hj]; rfl
  · rw [List.getElem?_eq_getElem hi, List.getElem?_eq_none hj, dif_neg (by omega), if_pos hi, if_neg (by omega)]; rfl
  · rw [List.getElem?_eq_none hi, List.getElem?_eq_getElem hj, dif_neg (by omega), if_neg (by omega), if_pos hj]; rfl
  · rw [List.getElem?_eq_none hi, List.getElem?_eq_none hj, dif_neg (by omega), if_neg (by omega), if_neg (by omega)]; rfl
theorem it_steps (T : TD) (hT : T.ok) (i j : Nat) (hi : i ≤ T.A.w.length) (hj : j ≤ T.B.w.length) (b0 b1 b2 : Nat) (h01 : b0 ≠ b1) (h02 : b0 ≠ b2) (h12 : b1 ≠ b2) (S : Mv) (hS : TD.at T S) :
    Iter Tryd.prog n___edit_table__steps_1 #[.pointer (some ⟨b1, 0, none⟩), .pointer (some ⟨b0, 0, none⟩), .pointer (some ⟨b2, 0, none⟩)] (fun w => S.le (Mv.of w)) (HW.mem (box3 b0 b1 b2 T.tb i j)) ((T.steps i j).map fun x => [stepV x]) := by
  refine Iter.of S___edit_table__steps_1 mx [.p (some ⟨b1, 0, none⟩), .p (some ⟨b0, 0, none⟩), .p (some ⟨b2, 0, none⟩)] (fun yv => rfl) (fun yv h => by simp [Sh.eats, Sh.eat, eatV, eatP, h]) ?_
  intro yv J E hyv hy hpre h hw hJ hdj
  have la := hT.la; have lb := hT.lb
  have hlen : ((T.steps i j).map fun x => [stepV x]).length = (st1 T i j).length + (st2 T i j).length + (st3 T i j).length := by rw [steps_parts]; simp; omega
  rw [hlen]
  have hA : ∀ {hX : HW} (hw : ∃ w, hX.H w) (q : Nat), J q hX → ∀ w, hX.H w → S.le (Mv.of w) := fun hw q hq w h => hpre q _ w hq h
  have ei := add_i64 i (by omega)
  have ej := add_i64 j (by omega)
  have b0e : box3 b0 b1 b2 T.tb i j b0 = some (box 73 (.pointer (some ⟨T.tb, 0, none⟩))) := box3_0
  have b1e : box3 b0 b1 b2 T.tb i j b1 = some (box 3 (.int .i64 (i : Int))) := box3_1 h01
  have b2e : box3 b0 b1 b2 T.tb i j b2 = some (box 3 (.int .i64 (j : Int))) := box3_2 h02 h12
  generalize hm : box3 b0 b1 b2 T.tb i j = m at *
  have cS : ∀ {hX : HW} {hw : ∃ w, hX.H w} {hS' : ∀ w, hX.H w → S.le (Mv.of w)} {ρ : Env} {blks : List Blk}, Good (Cx.inside hX S hw hS') [] m → TD.at T (vw (Cx.inside hX S hw hS') [] ρ blks m) := fun g => hS.mono g.R
  -- are both words unfinished?
  refine .joinY (fun us m' hX => us = [.b (decide (i < T.A.w.length ∧ j < T.B.w.length))] ∧ m = m' ∧ J 0 hX) ?_ ?_
  · refine .into hw (hA hw 0 hJ) (.loadB (.int .i64 (i : Int)) b1 3 rfl b1e (.loadB (.pointer (some ⟨T.tb, 0, none⟩)) b0 73 rfl b0e (.chk rfl (.chk rfl (.loadS T.hd 0 _ _ _ rfl rfl (fun g => (cS g).1) (.chk (by ((try simp only [evE, liE, letsOf, letU, snd]); (try simp only [cmE])); omega) ?_))))))
    refine .ite (fun h1 => .loadB (.int .i64 (j : Int)) b2 3 rfl b2e (.loadB (.pointer (some ⟨T.tb, 0, none⟩)) b0 73 rfl b0e (.chk rfl (.chk rfl (.loadS T.hd 1 _ _ _ rfl rfl (fun g => (cS g).1) (.chk (by ((try simp only [evE, liE, letsOf, letU, snd]); (try simp only [cmE])); omega) (.againY rfl ⟨?_, rfl, hJ⟩))))))) (fun h1 => .againY rfl ⟨?_, rfl, hJ⟩) <;> ((try simp only [evE, liE, letsOf, letU, snd] at h1); (try simp only [cmE] at h1))
    · (simp only [evE, liE, letsOf, letU, snd, Sh.uss, Sh.us, atAddr, map_add0, List.append_nil])
      show [U.b (decide ((j : Int) < (T.B.w.length : Int)))] = _
      have : i < T.A.w.length := by omega
      simp [this]
    · (simp only [evE, liE, letsOf, letU, snd, Sh.uss, Sh.us, atAddr, map_add0, List.append_nil])
      have : ¬ i < T.A.w.length := by omega
      simp [this]
  rintro _ m' hX _ ⟨rfl, rfl, hJ0⟩ hwX
  refine .joinY (fun us m' hX => us = [] ∧ m = m' ∧ J (st1 T i j).length hX) ?_ ?_
  · refine .into hwX (hA hwX 0 hJ0) (.ite (fun h1 => ?_) (fun h1 => .againY rfl ⟨rfl, rfl, ?_⟩)) <;> ((try simp only [evE, liE, letsOf, letU, snd] at h1); (try simp only [cmE] at h1))
    · obtain ⟨h1, h1'⟩ : i < T.A.w.length ∧ j < T.B.w.length := h1
      refine .loadB (.pointer (some ⟨T.tb, 0, none⟩)) b0 73 rfl b0e (.chk rfl (.chk rfl (.loadS T.hd 0 _ _ _ rfl rfl (fun g => (cS g).1) (.loadB (.int .i64 (i : Int)) b1 3 rfl b1e (.loadW T.A.w i h1 (fun g => (cS g).2.1) ?_)))))
      refine .loadB (.pointer (some ⟨T.tb, 0, none⟩)) b0 73 rfl b0e (.chk rfl (.chk rfl (.loadS T.hd 1 _ _ _ rfl rfl (fun g => (cS g).1) (.loadB (.int .i64 (j : Int)) b2 3 rfl b2e (.loadW T.B.w j h1' (fun g => (cS g).2.2.1) ?_)))))
      refine .loadB (.pointer (some ⟨T.tb, 0, none⟩)) b0 73 rfl b0e (.chk rfl (.chk rfl (.loadCost T.hd 2 _ _ _ _ rfl rfl rfl (fun g => (cS g).1) ?_)))
      refine .env (by (try simp only [liE, letsOf, letU, snd, List.append_nil]); rfl) (.callV (c_dist T.A.w[i] T.B.w[j] T.pc T.cc T.ws T.gap (hT.a.at h1) (hT.b.at h1')) (fun g => (cS g).2.2.2) (.loadB (.int .i64 (i : Int)) b1 3 rfl b1e (.loadB (.int .i64 (j : Int)) b2 3 rfl b2e ?_)))
      have hx1 : st1 T i j = [(i + 1, j + 1, T.d T.A.w[i] T.B.w[j])] := dif_pos ⟨h1, h1'⟩
      refine .env (by (try simp only [liE, letsOf, letU, snd, List.append_nil]); rfl) (.yield hy (q := 0) (x := [stepV (i + 1, j + 1, T.d T.A.w[i] T.B.w[j])]) hJ0 (by rw [steps_parts, hx1]; rfl) (fun hX' hw' hJ' => .no rfl (.againY rfl ⟨rfl, rfl, by rw [hx1]; exact hJ'⟩)) (fun hX' hE => .yes rfl (.stop (.inr hE))) (hargs := ?_))
      simp only [SV.dens, SV.den, IT.eval, stepV, Env.int, List.getElem?_cons_zero, List.getElem?_cons_succ, ei, ej]; rfl
    · have hx1 : st1 T i j = [] := dif_neg (by omega)
      rw [hx1]; exact hJ0
  rintro _ m' hX _ ⟨rfl, rfl, hJ1⟩ hwX
  refine .joinY (fun us m' hX => m = m' ∧ ((us = [.b false] ∧ J ((st1 T i j).length + (st2 T i j).length) hX) ∨ (us = [.b true] ∧ E hX))) ?_ ?_
  · refine .into hwX (hA hwX _ hJ1) (.loadB (.int .i64 (i : Int)) b1 3 rfl b1e (.loadB (.pointer (some ⟨T.tb, 0, none⟩)) b0 73 rfl b0e (.chk rfl (.chk rfl (.loadS T.hd 0 _ _ _ rfl rfl (fun g => (cS g).1) (.chk (by ((try simp only [evE, liE, letsOf, letU, snd]); (try simp only [cmE])); omega) ?_))))))
    refine .ite (fun h1 => ?_) (fun h1 => .againY rfl ⟨rfl, .inl ⟨rfl, ?_⟩⟩) <;> ((try simp only [evE, liE, letsOf, letU, snd] at h1); (try simp only [cmE] at h1))
    · have h1 : i < T.A.w.length := by omega
      have hx2 : st2 T i j = [(i + 1, j, T.gap)] := if_pos h1
      refine .loadB (.int .i64 (i : Int)) b1 3 rfl b1e (.loadB (.int .i64 (j : Int)) b2 3 rfl b2e (.loadB (.pointer (some ⟨T.tb, 0, none⟩)) b0 73 rfl b0e (.chk rfl (.chk rfl (.chk rfl (.load1 (.int .i64 T.gap) (some ⟨T.tb, 0, none⟩) T.hd 3 rfl rfl (fun g => (cS g).1) rfl ?_))))))
      refine .env (by (try simp only [liE, letsOf, letU, snd, List.append_nil]); rfl) (.yield hy (q := (st1 T i j).length) (x := [stepV (i + 1, j, T.gap)]) hJ1 (by rw [steps_parts, hx2]; simp) (fun hX' hw' hJ' => .againY rfl ⟨rfl, .inl ⟨rfl, by rw [hx2]; exact hJ'⟩⟩) (fun hX' hE => .againY rfl ⟨rfl, .inr ⟨rfl, hE⟩⟩) (hargs := ?_))
      simp only [SV.dens, SV.den, IT.eval, stepV, Env.int, List.getElem?_cons_zero, List.getElem?_cons_succ, ei]
    · have hx2 : st2 T i j = [] := if_neg (by omega)
      rw [hx2]; exact hJ1
  rintro us m' hX _ ⟨rfl, hor⟩ hwX
  rcases hor with ⟨rfl, hJ2⟩ | ⟨rfl, hE2⟩
  · refine .no rfl (.into hwX (hA hwX _ hJ2) (.loadB (.int .i64 (j : Int)) b2 3 rfl b2e (.loadB (.pointer (some ⟨T.tb, 0, none⟩)) b0 73 rfl b0e (.chk rfl (.chk rfl (.loadS T.hd 1 _ _ _ rfl rfl (fun g => (cS g).1) (.chk (by ((try simp only [evE, liE, letsOf, letU, snd]); (try simp only [cmE])); omega) ?_)))))))
    refine .joinY (fun us m' hX => us = [] ∧ (J ((st1 T i j).length + (st2 T i j).length + (st3 T i j).length) hX ∨ E hX)) ?_ ?_
    · refine .ite (fun h1 => ?_) (fun h1 => .againY rfl ⟨rfl, .inl ?_⟩) <;> ((try simp only [evE, liE, letsOf, letU, snd] at h1); (try simp only [cmE] at h1))
      · have h1 : j < T.B.w.length := by omega
        have hx3 : st3 T i j = [(i, j + 1, T.gap)] := if_pos h1
        refine .loadB (.int .i64 (i : Int)) b1 3 rfl b1e (.loadB (.int .i64 (j : Int)) b2 3 rfl b2e (.loadB (.pointer (some ⟨T.tb, 0, none⟩)) b0 73 rfl b0e (.chk rfl (.chk rfl (.chk rfl (.load1 (.int .i64 T.gap) (some ⟨T.tb, 0, none⟩) T.hd 3 rfl rfl (fun g => (cS g).1) rfl ?_))))))
        refine .env (by (try simp only [liE, letsOf, letU, snd, List.append_nil]); rfl) (.yield hy (q := (st1 T i j).length + (st2 T i j).length) (x := [stepV (i, j + 1, T.gap)]) hJ2 (by rw [steps_parts, hx3, ← List.append_assoc, List.map_append, List.getElem?_append_right (by simp)]; simp) (fun hX' hw' hJ' => .againY rfl ⟨rfl, .inl (by rw [hx3]; exact hJ')⟩) (fun hX' hE => .againY rfl ⟨rfl, .inr hE⟩) (hargs := ?_))
        simp only [SV.dens, SV.den, IT.eval, stepV, Env.int, List.getElem?_cons_zero, List.getElem?_cons_succ, ej]
      · have hx3 : st3 T i j = [] := if_neg (by omega)
        rw [hx3]; exact hJ2
    · rintro _ m' hX _ ⟨rfl, hor⟩ hwX
      exact .stop hor
  · exact .yes rfl (.stop (.inr hE2))
end Go.Proofs.YtedfogpnmpmggaaDoor
/- The table of smallest costs, as edit makes it. -/
namespace Go.Sy
open Go Go.RowKit
theorem dens_append (L : List Nat) (ρ : Env) (a b : List SV) : SV.dens L ρ (a ++ b) = SV.dens L ρ a ++ SV.dens L ρ b := by
  induction a with
  | nil => rfl
  | cons x a ih => simp only [List.cons_append, SV.dens, ih]
theorem dens_replicate (L : List Nat) (ρ : Env) (n : Nat) (x : SV) : SV.dens L ρ (List.replicate n x) = List.replicate n (x.den L ρ) := by
  induction n with
  | zero => rfl
  | succ n ih => simp only [List.replicate_succ, SV.dens, ih]
section
variable {P : Program} {c : Cx} {L : List Nat} {ρ : Env} {blks : List Blk} {m : Mem} {R : Value → HW → Prop} {Dn : Nat → List U → HW → Prop} {A : List (List U → HW → Prop)}
/-- A variable that lies in one of the state's blocks, or in memory. -/
theorem DenM.loadV {i : Nat} {s : Sh} {k : Tree} (v : Value) (b : Nat) (e : TypeId) (j0 : Nat) (hp : ρ.ptr i = some ⟨b, 0, none⟩) (h : (∃ blk, L[j0]? = some b ∧ blks[j0]? = some blk ∧ (SV.dens L ρ blk.cells)[0]? = some v) ∨ m b = some (box e v)) (hk : DenM P R Dn k L (ρ ++ letU v) c m A)
    (hus : Sh.eats [s] (letU v) = some [] := by rfl) (hv : SV.dens L (ρ ++ letU v) (Sh.freshs [s] ρ.length).1 = [v] := by rfl) : DenM P R Dn (.load i (.lit 0) [s] blks k) L ρ c m A := by
  rcases h with ⟨blk, h1, h2, h3⟩ | hm
  · refine .load1 v (some ⟨b, 0, none⟩) [v] 0 hp rfl (fun g i x hx => ⟨b, 0, rfl, ?_⟩) rfl hk hus hv
    rw [g.at h1 h2, Nat.zero_add]
    match i, hx with
    | 0, hx => cases hx; exact h3
    | i + 1, hx => simp at hx
  · exact .loadB v b e hp hm hk hus hv
theorem Mem.join_minus {m mq : Mem} (h : ∀ b, mq b ≠ none → m b = none) : (m.join mq).minus mq = m := by
  funext b
  show (match mq b with | some _ => none | none => (match m b with | some o => some o | none => mq b) : Option Obj) = m b
  cases hq : mq b with
  | none => dsimp only; cases m b <;> rfl
  | some o => exact (h b (by rw [hq]; simp)).symm
theorem Mem.join_at {m mq : Mem} {b : Nat} {o : Obj} (h : m b = some o) : m.join mq b = some o := by unfold Mem.join; rw [h]
end
theorem minL_snoc {l : List Int} {x : Int} (h : l ≠ []) : minL (l ++ [x]) = min (minL l) x := by
  cases l with
  | nil => exact absurd rfl h
  | cons y l => simp [minL, List.foldl_append]
theorem TD.steps_le (T : TD) {i j : Nat} (hi : i ≤ T.A.w.length) (hj : j ≤ T.B.w.length) {x : Stp} (hx : x ∈ T.steps i j) : x.1 ≤ T.A.w.length ∧ x.2.1 ≤ T.B.w.length ∧ (i < x.1 ∨ (x.1 = i ∧ j < x.2.1)) ∧ (x.2.2 = T.gap ∨ ∃ s t, x.2.2 = T.d s t) ∧ i ≤ x.1 ∧ x.1 ≤ i + 1 ∧ j ≤ x.2.1 ∧ x.2.1 ≤ j + 1 := by
  unfold TD.steps stepsA at hx
  rcases Nat.lt_or_ge i T.A.w.length with h1 | h1 <;> rcases Nat.lt_or_ge j T.B.w.length with h2 | h2
  · rw [List.getElem?_eq_getElem h1, List.getElem?_eq_getElem h2] at hx
    simp only [List.mem_cons, List.not_mem_nil, or_false] at hx
    rcases hx with rfl | rfl | rfl
    · exact ⟨by simp; omega, by simp; omega, by simp, .inr ⟨_, _, rfl⟩, by simp⟩
    · exact ⟨by simp; omega, by simp; omega, by simp, .inl rfl, by simp⟩
    · exact ⟨by simp; omega, by simp; omega, by simp, .inl rfl, by simp⟩
  · rw [List.getElem?_eq_getElem h1, List.getElem?_eq_none h2] at hx
    simp only [List.mem_cons, List.not_mem_nil, or_false] at hx
    subst hx
    exact ⟨by simp; omega, by simp; omega, by simp, .inl rfl, by simp⟩
  · rw [List.getElem?_eq_none h1, List.getElem?_eq_getElem h2] at hx
    simp only [List.mem_cons, List.not_mem_nil, or_false] at hx
    subst hx
    exact ⟨by simp; omega, by simp; omega, by simp, .inl rfl, by simp⟩
  · rw [List.getElem?_eq_none h1, List.getElem?_eq_none h2] at hx
    simp at hx
theorem TD.ok.cost_bound {T : TD} (h : T.ok) {x : Stp} (hx : x.2.2 = T.gap ∨ ∃ s t, x.2.2 = T.d s t) : 0 ≤ x.2.2 ∧ x.2.2 ≤ 1073741824 * 24 := by
  rcases hx with e | ⟨s, t, e⟩ <;> rw [e]
  · have := h.gap; omega
  · exact distC_pos h.cost
/-- What is filled in: rows from i on, and the row before from j on. -/
def TD.F (T : TD) (i j : Nat) : Nat → Nat → Int := fun i' j' => if (i ≤ i' ∨ (i' + 1 = i ∧ j ≤ j')) ∧ i' ≤ T.A.w.length ∧ j' ≤ T.B.w.length then T.R i' j' else 0
theorem TD.F_start (T : TD) (j : Nat) (hj : T.B.w.length < j) : T.F (T.A.w.length + 1) j = fun _ _ => 0 := by
  funext i' j'
  unfold TD.F
  rw [if_neg (by omega)]
theorem TD.F_row (T : TD) (i j : Nat) (hj : T.B.w.length < j) : T.F (i + 1) 0 = T.F i j := by
  funext i' j'
  unfold TD.F
  by_cases h : (i + 1 ≤ i' ∨ (i' + 1 = i + 1 ∧ 0 ≤ j')) ∧ i' ≤ T.A.w.length ∧ j' ≤ T.B.w.length
  · rw [if_pos h, if_pos (by omega)]
  · rw [if_neg h, if_neg (by omega)]
theorem TD.F_next (T : TD) (r s : Nat) (hr : r ≤ T.A.w.length) (hs : s ≤ T.B.w.length) : upd2 (T.F (r + 1) (s + 1)) r s (T.R r s) = T.F (r + 1) s := by
  funext i' j'
  unfold upd2 TD.F
  by_cases h : i' = r ∧ j' = s
  · rw [if_pos h, if_pos (by omega), h.1, h.2]
  · rw [if_neg h]
    by_cases h2 : (r + 1 ≤ i' ∨ (i' + 1 = r + 1 ∧ s + 1 ≤ j')) ∧ i' ≤ T.A.w.length ∧ j' ≤ T.B.w.length
    · rw [if_pos h2, if_pos (by omega)]
    · rw [if_neg h2, if_neg (by omega)]
theorem TD.F_here (T : TD) (r s : Nat) : upd2 (T.F (r + 1) (s + 1)) r s 0 = T.F (r + 1) (s + 1) := by
  funext i' j'
  unfold upd2
  by_cases h : i' = r ∧ j' = s
  · rw [if_pos h, h.1, h.2]; unfold TD.F; rw [if_neg (by omega)]
  · rw [if_neg h]
theorem upd2_upd2 (f : Nat → Nat → Int) (r s : Nat) (v v' : Int) : upd2 (upd2 f r s v) r s v' = upd2 f r s v' := by
  funext i' j'
  unfold upd2
  split <;> rfl
end Go.Sy
namespace Go.Proofs.YtedfogpnmpmggaaDoor
open Go Go.Sy Go.RowKit
/-- How the world reads for the steps: what stands around, and the table's head. -/
def TD.S (T : TD) (c : Cx) : Mv := fun b o => if b = T.tb then T.hd[o]? else c.R b o
theorem TD.S_at {T : TD} {c : Cx} (hn : ¬ c.hb.own T.tb) (ha : WordAt c.R T.A.p T.A.w) (hb : WordAt c.R T.B.p T.B.w) (hc : CostsAt c.R T.pc T.ws) (ht : TabOk c.R) : TD.at T (TD.S T c) := by
  have hle : c.R.le (TD.S T c) := fun b o v h => by
    unfold TD.S
    rw [if_neg (fun e : b = T.tb => hn (e ▸ c.own b o v h))]; exact h
  exact ⟨fun i x hx => ⟨T.tb, 0, rfl, by unfold TD.S; rw [if_pos rfl, Nat.zero_add]; exact hx⟩, ha.mono hle, hb.mono hle, hc.mono hle, ht.mono hle⟩
theorem TD.S_le {T : TD} {c : Cx} {f : Nat → Nat → Int} {e : TypeId} {L : List Nat} {ρ : Env} {blks : List Blk} {m : Mem} {w : World} (hm : m T.tb = some (.cells (gcells T.hd .i64 f).toArray e (0, 0))) (hw : Wd L ρ blks (c.hw m) w) : (TD.S T c).le (Mv.of w) := fun b o v h => by
  unfold TD.S at h
  split at h
  · rename_i e'
    subst e'
    have hlt := (List.getElem?_eq_some_iff.1 h).1
    show w.cell? ⟨T.tb, o, none⟩ = _
    have := hw.hold.2 _ _ hm
    simp only [World.cell?, this]
    simp only [Option.isSome_none, Bool.false_eq_true, if_false, List.getElem?_toArray]
    rw [gcells_hd _ _ _ _ hlt]; exact h
  · exact c.ok w b o v hw.hold.1 h
theorem box_ne {m : Mem} {b tb : Nat} {e e' : TypeId} {v : Value} {hd : List Value} {k : IntKind} {f : Nat → Nat → Int} (h : m b = some (box e v)) (h' : m tb = some (.cells (gcells hd k f).toArray e' (0, 0))) : b ≠ tb := by
  rintro rfl
  rw [h] at h'
  simp only [box, Option.some.injEq, Obj.cells.injEq] at h'
  have := congrArg Array.size h'.1
  have h2 := gcells_len hd k f
  simp at this
  omega
set_option maxHeartbeats 1000000 in
theorem c_newTable (A B : WD) (pc : Option Addr) (cc : Nat) (ws : List Int) (gap : Int) (ha : Wok A.w) (hb : Wok B.w) :
    FnM Tryd.prog n_edit_newTable [A.v, B.v, costs pc ws.length cc gap] (fun R => WordAt R A.p A.w ∧ WordAt R B.p B.w ∧ CostsAt R pc ws ∧ TabOk R) fun v mq _ =>
      (checkE ws gap [A.w, B.w] ≠ 0 → v = .tuple #[.pointer none, .int .i64 (checkE ws gap [A.w, B.w])]) ∧
      (checkE ws gap [A.w, B.w] = 0 → ∃ tb, TD.ok ⟨tb, A, B, pc, cc, ws, gap⟩ ∧ v = .tuple #[.pointer (some ⟨tb, 0, none⟩), .int .i64 0] ∧ mq tb = some (.cells (gcells (TD.hd ⟨tb, A, B, pc, cc, ws, gap⟩) .i64 (TD.F ⟨tb, A, B, pc, cc, ws, gap⟩ 0 0)).toArray 79 (0, 0))) := by
  obtain ⟨pa, ca, a⟩ := A
  obtain ⟨pb, cb, b⟩ := B
  simp only [] at ha hb
  refine FnM.of S_edit_newTable mx [.p pa, .i a.length, .i ca, .p pb, .i b.length, .i cb, .p pc, .i ws.length, .i cc, .i gap] rfl rfl fun c hp => .alloc fun b0 => .alloc fun b1 => ?_
  obtain ⟨hp1, hp2, hp3, hp4⟩ := hp
  refine .callV (c_editCheck pc cc ws gap (some ⟨b1, 0, none⟩) 2 [⟨pa, ca, a⟩, ⟨pb, cb, b⟩] (by simp [ha, hb]) (by simp)) (fun g => ⟨hp3.mono g.R, fun i x hx => ⟨b1, 0, rfl, ?_⟩, ?_⟩) (.ite (fun h1 => .ret rfl ?_) (fun h1 => ?_))
  · rw [g.at (j := 1) rfl rfl, Nat.zero_add]; exact hx
  · simp only [List.mem_cons, List.not_mem_nil, or_false]
    rintro x (rfl | rfl)
    · exact hp1.mono g.R
    · exact hp2.mono g.R
  · ((try simp only [evE, liE, letsOf, letU, snd] at h1); (try simp only [cmE] at h1))
    replace h1 : checkE ws gap [a, b] ≠ 0 := h1
    exact ⟨fun _ => by ((try simp only [evE, liE, letsOf, letU, snd]); (try simp only [cmE])); rfl, fun h => absurd h h1⟩
  ((try simp only [evE, liE, letsOf, letU, snd] at h1); (try simp only [cmE] at h1))
  replace h1 : checkE ws gap [a, b] = 0 := h1
  have hc1 : checkC ws gap = 0 ∧ checkL [a, b] = 0 := by
    unfold checkE at h1
    split at h1
    · omega
    · omega
  obtain ⟨la, va⟩ := checkW_zero (checkL_two hc1.2).1
  obtain ⟨lb, vb⟩ := checkW_zero (checkL_two hc1.2).2
  rw [show checkE ws gap (List.map (fun x : WD => x.w) [⟨pa, ca, a⟩, ⟨pb, cb, b⟩]) = 0 from h1]
  refine .env (by (try simp only [liE, letsOf, letU, snd, List.append_nil]); rfl) (.allocc fun tb _ _ htb => ?_)
  let T : TD := ⟨tb, ⟨pa, ca, a⟩, ⟨pb, cb, b⟩, pc, cc, ws, gap⟩
  have hT : T.ok := ⟨ha, hb, la, lb, va, vb, hc1.1⟩
  have hS : TD.at T (TD.S T c) := TD.S_at htb hp1 hp2 hp3 hp4
  have hcells : (Mem.emp.upd tb (.cells (SV.dens [b0, b1] [.p pa, .i a.length, .i ca, .p pb, .i b.length, .i cb, .p pc, .i ws.length, .i cc, .i gap, .i 0] ([(.sl 0 (.lit 0) (.var 1) (.var 2)), (.sl 3 (.lit 0) (.var 4) (.var 5)), (.sl 6 (.lit 0) (.var 7) (.var 8)), (.int .i64 (.var 9))] ++ List.replicate 1089 (.int .i64 (.lit 0)))).toArray 79 (0, 0))) tb = some (.cells (gcells T.hd .i64 (T.F (a.length + 1) (b.length + 1))).toArray 79 (0, 0)) := by
    rw [Mem.upd_same, dens_append, dens_replicate, TD.F_start T (b.length + 1) (Nat.lt_succ_self _), gcells_zero]; rfl
  replace hcells : (Mem.emp.upd tb (.cells (SV.dens ([] ++ [b0] ++ [b1]) [.p pa, .i a.length, .i ca, .p pb, .i b.length, .i cb, .p pc, .i ws.length, .i cc, .i gap, .i 0] ([(.sl 0 (.lit 0) (.var 1) (.var 2)), (.sl 3 (.lit 0) (.var 4) (.var 5)), (.sl 6 (.lit 0) (.var 7) (.var 8)), (.int .i64 (.var 9))] ++ List.replicate 1089 (.int .i64 (.lit 0)))).toArray 79 (0, 0))) tb = _ := hcells
  generalize Mem.emp.upd tb _ = m0 at hcells ⊢
  refine .alloc fun b2 => .chk (by ((try simp only [evE, liE, letsOf, letU, snd]); (try simp only [cmE])); omega) (.alloc fun b3 => ?_)
  refine .env (by (try simp only [liE, letsOf, letU, snd, List.append_nil]); rfl) (.loop (fun n us m => ∃ (i bi : Nat) (x : Int), us = [.p (some ⟨bi, 0, none⟩), .i x] ∧ i = n ∧ i ≤ a.length + 1 ∧ m tb = some (.cells (gcells T.hd .i64 (T.F i (b.length + 1))).toArray 79 (0, 0)) ∧ ((bi = b3 ∧ x = (i : Int) - 1) ∨ m bi = some (box 3 (.int .i64 ((i : Int) - 1))))) (a.length + 1)
    ⟨a.length + 1, b3, _, rfl, rfl, Nat.le_refl _, hcells, .inl ⟨rfl, by simp [IT.eval, Env.int]⟩⟩ ?_)
  clear hcells
  rintro n _ m _ ⟨i, bi, x, rfl, rfl, hia, hm, hbi⟩
  refine .loadV (.int .i64 ((i : Int) - 1)) bi 3 3 rfl (hbi.imp (fun ⟨e1, e2⟩ => ⟨_, by rw [e1]; rfl, rfl, by rw [← e2]; rfl⟩) id) (.ite (fun h2 => ?_) (fun h2 => ?_)) <;> ((try simp only [evE, liE, letsOf, letU, snd] at h2); (try simp only [cmE] at h2))
  · obtain ⟨r, rfl⟩ : ∃ r, i = r + 1 := ⟨i - 1, by omega⟩
    rw [show ((r + 1 : Nat) : Int) - 1 = (r : Int) by omega] at *
    refine .chk (by ((try simp only [evE, liE, letsOf, letU, snd]); (try simp only [cmE])); omega) (.alloc fun b4 => .env (by (try simp only [liE, letsOf, letU, snd, List.append_nil]); rfl) (.loop (fun n us m => ∃ (j bj : Nat) (y : Int), us = [.p (some ⟨bj, 0, none⟩), .i y] ∧ j = n ∧ j ≤ b.length + 1 ∧ m tb = some (.cells (gcells T.hd .i64 (T.F (r + 1) j)).toArray 79 (0, 0)) ∧ ((bi = b3 ∧ x = (r : Int)) ∨ m bi = some (box 3 (.int .i64 (r : Int)))) ∧ ((bj = b4 ∧ y = (j : Int) - 1) ∨ m bj = some (box 3 (.int .i64 ((j : Int) - 1))))) (b.length + 1)
      ⟨b.length + 1, b4, _, rfl, rfl, Nat.le_refl _, hm, hbi, .inl ⟨rfl, by simp [IT.eval, Env.int]⟩⟩ ?_))
    clear hbi hm
    rintro n _ m _ ⟨j, bj, y, rfl, rfl, hjb, hm, hbi, hbj⟩
    refine .loadV (.int .i64 ((j : Int) - 1)) bj 3 4 rfl (hbj.imp (fun ⟨e1, e2⟩ => ⟨_, by rw [e1]; rfl, rfl, by rw [← e2]; rfl⟩) id) (.ite (fun h3 => ?_) (fun h3 => ?_)) <;> ((try simp only [evE, liE, letsOf, letU, snd] at h3); (try simp only [cmE] at h3))
    · obtain ⟨s, rfl⟩ : ∃ s, j = s + 1 := ⟨j - 1, by omega⟩
      rw [show ((s + 1 : Nat) : Int) - 1 = (s : Int) by omega] at *
      have hr : r ≤ a.length := by omega
      have hs : s ≤ b.length := by omega
      refine .alloc fun b5 => .loadV (.int .i64 (r : Int)) bi 3 3 rfl (hbi.imp (fun ⟨e1, e2⟩ => ⟨_, by rw [e1]; rfl, rfl, by rw [← e2]; rfl⟩) id) (.loadV (.int .i64 (s : Int)) bj 3 4 rfl (hbj.imp (fun ⟨e1, e2⟩ => ⟨_, by rw [e1]; rfl, rfl, by rw [← e2]; rfl⟩) id) ?_)
      refine .env (by (try simp only [liE, letsOf, letU, snd, List.append_nil]); rfl) (.callM (c_steps tb r s) rfl rfl (fun _ => trivial) ?_)
      rintro v mq hfr ⟨c0, c1, c2, rfl, rfl, h01, h02, h12⟩
      refine ⟨[.v _], ⟨_, rfl, rfl⟩, rfl, ?_⟩
      let vals : List Int := (T.steps r s).map fun x => x.2.2 + T.R x.1 x.2.1
      have hvals : minL vals = T.R r s := (RA_steps T.d T.gap a b r s).symm
      refine .range n___edit_table__steps_1 _ ((T.steps r s).map stepU) (fun w => (TD.S T c).le (Mv.of w)) (box3 c0 c1 c2 tb r s) m
        (fun k us m' => us = [.b (k == 0)] ∧ m' tb = some (.cells (gcells T.hd .i64 (upd2 (T.F (r + 1) (s + 1)) r s (minL (vals.take k)))).toArray 79 (0, 0)) ∧ ((bi = b3 ∧ x = (r : Int)) ∨ m' bi = some (box 3 (.int .i64 (r : Int)))) ∧ ((bj = b4 ∧ y = (s : Int)) ∨ m' bj = some (box 3 (.int .i64 (s : Int))))) (fun _ _ _ => False)
        rfl (by kernel_rfl) rfl ?_ ?_ ?_ ?_ ?_ ?_ ?_ (fun _ _ _ _ _ hE => hE.elim)
      · intro k hk
        cases hq : box3 c0 c1 c2 tb r s k with
        | none => rfl
        | some o => exact absurd (hfr k (by rw [hq]; simp)).1 hk
      · intro ux hx
        obtain ⟨z, _, rfl⟩ := List.mem_map.1 hx; rfl
      · have := it_steps T hT r s hr hs c0 c1 c2 h01 h02 h12 (TD.S T c) hS
        rw [List.map_map]
        exact this
      · refine ⟨rfl, ?_, hbi, hbj⟩
        show m tb = some (.cells (gcells T.hd .i64 (upd2 (T.F (r + 1) (s + 1)) r s 0)).toArray 79 (0, 0))
        rw [TD.F_here]; exact hm
      · rintro k us m' w ⟨_, hm', _⟩ hw
        exact TD.S_le hm' hw
      · rintro k us ux m' _ hx ⟨rfl, hm', hbi', hbj'⟩
        rw [List.getElem?_map, Option.map_eq_some_iff] at hx
        obtain ⟨z, hz, rfl⟩ := hx
        obtain ⟨hk, hze⟩ := List.getElem?_eq_some_iff.1 hz
        obtain ⟨z1, z2, z3, z4, _⟩ := T.steps_le hr hs (List.mem_of_getElem? hz)
        have zc := hT.cost_bound z4
        have zr := hT.R_bound z.1 z.2.1
        have hread : upd2 (T.F (r + 1) (s + 1)) r s (minL (vals.take k)) z.1 z.2.1 = T.R z.1 z.2.1 := by
          unfold upd2 TD.F
          have q1 : z.1 ≤ a.length := z1
          have q2 : z.2.1 ≤ b.length := z2
          rw [if_neg (by omega), if_pos ⟨by omega, z1, z2⟩]
        have hcell : ∀ {L : List Nat} {ρ : Env} {blks : List Blk} {m' : Mem} {f : Nat → Nat → Int}, m' tb = some (.cells (gcells T.hd .i64 f).toArray 79 (0, 0)) → Good c L m' → Cells (vw c L ρ blks m') (some ⟨tb, 0, none⟩) (gcells T.hd .i64 f) := fun hm g k x hx => ⟨tb, 0, rfl, by rw [vw_mem g hm, Nat.zero_add]; simpa using hx⟩
        have hvk : vals[k]? = some (z.2.2 + T.R z.1 z.2.1) := by
          show ((T.steps r s).map fun x => x.2.2 + T.R x.1 x.2.1)[k]? = _
          rw [List.getElem?_map, hz]; rfl
        have hvl : k < vals.length := (List.getElem?_eq_some_iff.1 hvk).1
        have hvs : vals.take (k + 1) = vals.take k ++ [z.2.2 + T.R z.1 z.2.1] := by
          rw [List.take_succ_eq_append_getElem hvl, (List.getElem?_eq_some_iff.1 hvk).2]
        have eadd : ar .add .i64 z.2.2 (T.R z.1 z.2.1) = z.2.2 + T.R z.1 z.2.1 := addI (by omega) (by omega)
        refine .alloc fun b6 => .chk rfl (.chk rfl (.loadG tb T.hd _ z.1 z.2.1 rfl (Nat.lt_succ_of_le (Nat.le_trans z1 hT.la)) (Nat.lt_succ_of_le (Nat.le_trans z2 hT.lb)) rfl (fun g => hcell hm' g) ?_))
        rw [hread]
        have nextbi : ∀ o, ((bi = b3 ∧ x = (r : Int)) ∨ (m'.upd tb o) bi = some (box 3 (.int .i64 (r : Int)))) := fun o => hbi'.imp id fun h => by rw [Mem.upd_other _ _ (box_ne h hm')]; exact h
        have nextbj : ∀ o, ((bj = b4 ∧ y = (s : Int)) ∨ (m'.upd tb o) bj = some (box 3 (.int .i64 (s : Int)))) := fun o => hbj'.imp id fun h => by rw [Mem.upd_other _ _ (box_ne h hm')]; exact h
        refine .env (by (try simp only [liE, letsOf, letU, snd, List.append_nil]); rfl) (.ite (fun h4 => ?_) (fun h4 => ?_)) <;> ((try simp only [evE, liE, letsOf, letU, snd] at h4); (try simp only [cmE] at h4))
        · have hk0 : k = 0 := by simpa using h4
          subst hk0
          refine .loadV (.int .i64 (r : Int)) bi 3 3 rfl (hbi'.imp (fun ⟨e1, e2⟩ => ⟨_, by rw [e1]; rfl, rfl, by rw [← e2]; rfl⟩) id) (.loadV (.int .i64 (s : Int)) bj 3 4 rfl (hbj'.imp (fun ⟨e1, e2⟩ => ⟨_, by rw [e1]; rfl, rfl, by rw [← e2]; rfl⟩) id) (.chk rfl (.chk rfl ?_)))
          refine .storeG tb 79 T.hd _ r s (minL (vals.take (0 + 1))) rfl (by omega) (by omega) rfl hm' ?_ (.leave (.inl ⟨rfl, rfl, ?_, nextbi _, nextbj _⟩))
          · rw [hvs]; exact eadd
          · rw [Mem.upd_same, upd2_upd2]
        · have hk0 : k ≠ 0 := by simpa using h4
          refine .loadV (.int .i64 (r : Int)) bi 3 3 rfl (hbi'.imp (fun ⟨e1, e2⟩ => ⟨_, by rw [e1]; rfl, rfl, by rw [← e2]; rfl⟩) id) (.loadV (.int .i64 (s : Int)) bj 3 4 rfl (hbj'.imp (fun ⟨e1, e2⟩ => ⟨_, by rw [e1]; rfl, rfl, by rw [← e2]; rfl⟩) id) (.chk rfl (.chk rfl ?_)))
          refine .loadG tb T.hd _ r s rfl (by omega) (by omega) rfl (fun g => hcell hm' g) ?_
          rw [show upd2 (T.F (r + 1) (s + 1)) r s (minL (vals.take k)) r s = minL (vals.take k) from if_pos ⟨rfl, rfl⟩]
          have hne : vals.take k ≠ [] := fun e => by
            have := congrArg List.length e
            rw [List.length_take, List.length_nil] at this
            omega
          have hmin := minL_snoc (x := z.2.2 + T.R z.1 z.2.1) hne
          rw [← hvs] at hmin
          have hb0 : ((k == 0) : Bool) = ((k + 1 == 0) : Bool) := by simp [hk0]
          refine .env (by (try simp only [liE, letsOf, letU, snd, List.append_nil]); rfl) (.ite (fun h5 => ?_) (fun h5 => .leave (.inl ⟨rfl, ?_, ?_, hbi', hbj'⟩)))
          · replace h5 : decide (ar .add .i64 z.2.2 (T.R z.1 z.2.1) < minL (vals.take k)) = true := h5
            rw [eadd, decide_eq_true_eq] at h5
            refine .loadV (.int .i64 (r : Int)) bi 3 3 rfl (hbi'.imp (fun ⟨e1, e2⟩ => ⟨_, by rw [e1]; rfl, rfl, by rw [← e2]; rfl⟩) id) (.loadV (.int .i64 (s : Int)) bj 3 4 rfl (hbj'.imp (fun ⟨e1, e2⟩ => ⟨_, by rw [e1]; rfl, rfl, by rw [← e2]; rfl⟩) id) (.chk rfl (.chk rfl ?_)))
            refine .storeG tb 79 T.hd _ r s (minL (vals.take (k + 1))) rfl (by omega) (by omega) rfl hm' ?_ (.leave (.inl ⟨rfl, ?_, ?_, nextbi _, nextbj _⟩))
            · show ar .add .i64 z.2.2 (T.R z.1 z.2.1) = _
              rw [hmin, eadd]; omega
            · (simp only [evE, liE, letsOf, letU, snd, Sh.uss, Sh.us, atAddr, map_add0, List.append_nil]); simp
            · rw [Mem.upd_same, upd2_upd2]
          · show [U.b (k == 0)] = _
            rw [hb0]
          · replace h5 : decide (ar .add .i64 z.2.2 (T.R z.1 z.2.1) < minL (vals.take k)) = false := h5
            rw [eadd, decide_eq_false_iff_not] at h5
            rw [hmin, show min (minL (vals.take k)) (z.2.2 + T.R z.1 z.2.1) = minL (vals.take k) by omega]
            exact hm'
      · rintro us m' _ ⟨rfl, hm', hbi', hbj'⟩
        have hfull : vals.take ((T.steps r s).map stepU).length = vals := by
          rw [List.take_of_length_le (by simp [vals])]
        rw [hfull, hvals, TD.F_next T r s hr hs] at hm'
        refine .loadV (.int .i64 (s : Int)) bj 3 4 rfl (hbj'.imp (fun ⟨e1, e2⟩ => ⟨_, by rw [e1]; rfl, rfl, by rw [← e2]; rfl⟩) id) (.alloc fun b6 => .againL rfl fun g => ⟨s, by omega, s, b6, y, ?_, rfl, by omega, ?_, ?_, ?_⟩)
        · (simp only [evE, liE, letsOf, letU, snd, Sh.uss, Sh.us, atAddr, map_add0, List.append_nil]); rfl
        · rw [blkMem_not fun h => by rw [(g.blk tb (List.drop_subset _ _ h)).1] at hm'; cases hm']
          exact hm'
        · refine hbi'.imp id fun h => ?_
          rw [blkMem_not fun h2 => by rw [(g.blk bi (List.drop_subset _ _ h2)).1] at h; cases h]
          exact h
        · refine .inr ?_
          have hnd := g.nd
          rw [blkMem_at (j := 1) (b := b6) (List.Nodup.sublist (List.drop_sublist _ _) g.nd) rfl rfl]
          simp only [SV.dens, SV.den, IT.eval, box]
          have : ar .sub .i64 (s : Int) 1 = (s : Int) - 1 := subI (by omega) (by omega)
          simp only [Env.int]
          first | (rw [← this]; rfl) | skip
    · have hj0 : j = 0 := by omega
      subst hj0
      refine .loadV (.int .i64 (r : Int)) bi 3 3 rfl (hbi.imp (fun ⟨e1, e2⟩ => ⟨_, by rw [e1]; rfl, rfl, by rw [← e2]; rfl⟩) id) (.alloc fun b5 => .againL rfl fun g => ⟨r, by omega, r, b5, x, ?_, rfl, by omega, ?_, ?_⟩)
      · (simp only [evE, liE, letsOf, letU, snd, Sh.uss, Sh.us, atAddr, map_add0, List.append_nil]); rfl
      · rw [TD.F_row T r (b.length + 1) (Nat.lt_succ_self _)] at hm
        rw [blkMem_not fun h => by rw [(g.blk tb (List.drop_subset _ _ h)).1] at hm; cases hm]
        exact hm
      · refine .inr ?_
        rw [blkMem_at (j := 1) (b := b5) (List.Nodup.sublist (List.drop_sublist _ _) g.nd) rfl rfl]
        simp only [SV.dens, SV.den, IT.eval, box]
        have : ar .sub .i64 (r : Int) 1 = (r : Int) - 1 := subI (by omega) (by omega)
        simp only [Env.int]
        first | (rw [← this]; rfl) | skip
  · have hi0 : i = 0 := by omega
    subst hi0
    refine .ret rfl ⟨fun h => absurd h1 h, fun _ => ⟨tb, hT, rfl, ?_⟩⟩
    rw [hm]
    have : T.F 0 (b.length + 1) = T.F 0 0 := by
      funext i' j'
      unfold TD.F
      by_cases h : (0 ≤ i' ∨ (i' + 1 = 0 ∧ b.length + 1 ≤ j')) ∧ i' ≤ T.A.w.length ∧ j' ≤ T.B.w.length
      · rw [if_pos h, if_pos (by omega)]
      · rw [if_neg h, if_neg (by omega)]
    rw [this]
end Go.Proofs.YtedfogpnmpmggaaDoor
/- The cheapest steps, as edit goes over them; edit.Dist. -/
namespace Go.Sy
open Go Go.RowKit
def TD.pc? (T : TD) (i j : Nat) : Stp → Bool := fun x => x.2.2 + T.R x.1 x.2.1 == T.R i j
def TD.cheap (T : TD) (i j : Nat) : List Stp := cheapA T.d T.gap T.A.w T.B.w i j
theorem TD.cheap_eq (T : TD) (i j : Nat) : T.cheap i j = (T.steps i j).filter (T.pc? i j) := rfl
theorem filter_take {α : Type} (p : α → Bool) (l : List α) (k : Nat) (hk : k < l.length) : ((l.take (k + 1)).filter p) = if p l[k] = true then (l.take k).filter p ++ [l[k]] else (l.take k).filter p := by
  rw [List.take_succ_eq_append_getElem hk, List.filter_append, List.filter_cons, List.filter_nil]
  split <;> simp
theorem filter_at {α : Type} (p : α → Bool) (l : List α) (k : Nat) (hk : k < l.length) (hp : p l[k] = true) : (l.filter p)[((l.take k).filter p).length]? = some l[k] := by
  have h : l = l.take k ++ l[k] :: l.drop (k + 1) := by rw [List.getElem_cons_drop, List.take_append_drop]
  conv => lhs; rw [h]
  rw [List.filter_append, List.filter_cons, if_pos hp]
  have : ((l.take k ++ l[k] :: l.drop (k + 1)).take k) = l.take k := by
    rw [List.take_append_of_le_length (by simp; omega), List.take_take, Nat.min_self]
  rw [this, List.getElem?_append_right (Nat.le_refl _), Nat.sub_self]; rfl
theorem TD.F_all (T : TD) {i j : Nat} (hi : i ≤ T.A.w.length) (hj : j ≤ T.B.w.length) : T.F 0 0 i j = T.R i j := by
  unfold TD.F; rw [if_pos ⟨by omega, hi, hj⟩]
end Go.Sy
namespace Go.Proofs.YtedfogpnmpmggaaDoor
open Go Go.Sy Go.RowKit
def TD.full (T : TD) (V : Mv) : Prop := TD.at T V ∧ Cells V (some ⟨T.tb, 0, none⟩) (gcells T.hd .i64 (T.F 0 0))
theorem TD.full.mono {T : TD} {V V' : Mv} (h : TD.full T V) (hle : V.le V') : TD.full T V' := ⟨TD.at.mono h.1 hle, h.2.mono hle⟩
/-- How the world reads for the cheapest steps. -/
def TD.SF (T : TD) (c : Cx) : Mv := fun b o => if b = T.tb then (gcells T.hd .i64 (T.F 0 0))[o]? else c.R b o
theorem TD.SF_full {T : TD} {c : Cx} (hn : ¬ c.hb.own T.tb) (ha : WordAt c.R T.A.p T.A.w) (hb : WordAt c.R T.B.p T.B.w) (hc : CostsAt c.R T.pc T.ws) (ht : TabOk c.R) : TD.full T (TD.SF T c) := by
  have hle : c.R.le (TD.SF T c) := fun b o v h => by
    unfold TD.SF
    rw [if_neg (fun e : b = T.tb => hn (e ▸ c.own b o v h))]; exact h
  have hg : Cells (TD.SF T c) (some ⟨T.tb, 0, none⟩) (gcells T.hd .i64 (T.F 0 0)) := fun i x hx => ⟨T.tb, 0, rfl, by unfold TD.SF; rw [if_pos rfl, Nat.zero_add]; exact hx⟩
  exact ⟨⟨fun i x hx => hg i x (by rw [gcells_hd _ _ _ _ (List.getElem?_eq_some_iff.1 hx).1]; exact hx), ha.mono hle, hb.mono hle, hc.mono hle, ht.mono hle⟩, hg⟩
theorem TD.SF_le {T : TD} {c : Cx} {e : TypeId} {L : List Nat} {ρ : Env} {blks : List Blk} {m : Mem} {w : World} (hm : m T.tb = some (.cells (gcells T.hd .i64 (T.F 0 0)).toArray e (0, 0))) (hw : Wd L ρ blks (c.hw m) w) : (TD.SF T c).le (Mv.of w) := fun b o v h => by
  unfold TD.SF at h
  split at h
  · rename_i e'
    subst e'
    show w.cell? ⟨T.tb, o, none⟩ = _
    have := hw.hold.2 _ _ hm
    simp only [World.cell?, this]
    simp only [Option.isSome_none, Bool.false_eq_true, if_false, List.getElem?_toArray]
    exact h
  · exact c.ok w b o v hw.hold.1 h
theorem it_cheapest (T : TD) (hT : T.ok) (i j : Nat) (hi : i ≤ T.A.w.length) (hj : j ≤ T.B.w.length) (b0 b1 b2 : Nat) (h01 : b0 ≠ b1) (h02 : b0 ≠ b2) (h12 : b1 ≠ b2) (S : Mv) (hS : TD.full T S) :
    Iter Tryd.prog n___edit_table__cheapest_1 #[.pointer (some ⟨b0, 0, none⟩), .pointer (some ⟨b1, 0, none⟩), .pointer (some ⟨b2, 0, none⟩)] (fun w => S.le (Mv.of w)) (HW.mem (box3 b0 b1 b2 T.tb i j)) ((T.cheap i j).map fun x => [stepV x]) := by
  refine Iter.of S___edit_table__cheapest_1 mx [.p (some ⟨b0, 0, none⟩), .p (some ⟨b1, 0, none⟩), .p (some ⟨b2, 0, none⟩)] (fun yv => rfl) (fun yv h => by simp [Sh.eats, Sh.eat, eatV, eatP, h]) ?_
  intro yv J E hyv hy hpre h hw hJ hdj
  have hA : ∀ {hX : HW} (hw : ∃ w, hX.H w) (q : Nat), J q hX → ∀ w, hX.H w → S.le (Mv.of w) := fun hw q hq w h => hpre q _ w hq h
  have b0e : box3 b0 b1 b2 T.tb i j b0 = some (box 73 (.pointer (some ⟨T.tb, 0, none⟩))) := box3_0
  have b1e : box3 b0 b1 b2 T.tb i j b1 = some (box 3 (.int .i64 (i : Int))) := box3_1 h01
  have b2e : box3 b0 b1 b2 T.tb i j b2 = some (box 3 (.int .i64 (j : Int))) := box3_2 h02 h12
  generalize hm : box3 b0 b1 b2 T.tb i j = m at *
  refine .alloc fun ba => .loadB (.pointer (some ⟨T.tb, 0, none⟩)) b0 73 rfl b0e (.loadB (.int .i64 (i : Int)) b1 3 rfl b1e (.loadB (.int .i64 (j : Int)) b2 3 rfl b2e ?_))
  refine .env (by (try simp only [liE, letsOf, letU, snd, List.append_nil]); rfl) (.callM (c_steps T.tb i j) rfl rfl (fun _ => trivial) ?_)
  rintro v mq hfr ⟨c0, c1, c2, rfl, rfl, g01, g02, g12⟩
  refine ⟨[.v _], ⟨_, rfl, rfl⟩, rfl, ?_⟩
  have hmm : (m.join (box3 c0 c1 c2 T.tb i j)).minus (box3 c0 c1 c2 T.tb i j) = m := Mem.join_minus fun b hb => (hfr b hb).1
  let cnt : Nat → Nat := fun k => (((T.steps i j).take k).filter (T.pc? i j)).length
  refine .rangeY n___edit_table__steps_1 _ ((T.steps i j).map stepU) S (box3 c0 c1 c2 T.tb i j) (fun k us m' hX => us = [] ∧ m = m' ∧ J (cnt k) hX) (fun n us m' hX => E hX) rfl (by kernel_rfl) (fun b o hb => ?_) ?_ ?_ ?_ ?_ ?_ ?_ ?_
  · have := hfr b (by rw [hb]; simp)
    unfold Mem.join; rw [this.1]; exact hb
  · intro ux hx
    obtain ⟨z, _, rfl⟩ := List.mem_map.1 hx; rfl
  · have := it_steps T hT i j hi hj c0 c1 c2 g01 g02 g12 S hS.1
    rw [List.map_map]
    exact this
  · exact ⟨rfl, hmm.symm, hJ⟩
  · rintro k us m' hX w ⟨_, _, hq⟩ hwd
    exact hpre _ _ w hq hwd.hold.1
  · rintro k us ux m' hX _ hx ⟨rfl, rfl, hq⟩ hwX
    rw [List.getElem?_map, Option.map_eq_some_iff] at hx
    obtain ⟨z, hz, rfl⟩ := hx
    obtain ⟨hk, hze⟩ := List.getElem?_eq_some_iff.1 hz
    obtain ⟨z1, z2, z3, z4, _⟩ := T.steps_le hi hj (List.mem_of_getElem? hz)
    have zc := hT.cost_bound z4
    have zr := hT.R_bound z.1 z.2.1
    have eadd : ar .add .i64 z.2.2 (T.R z.1 z.2.1) = z.2.2 + T.R z.1 z.2.1 := addI (by omega) (by omega)
    have hft := filter_take (T.pc? i j) (T.steps i j) k hk
    rw [hze] at hft
    have cS : ∀ {hX : HW} {hw : ∃ w, hX.H w} {hS' : ∀ w, hX.H w → S.le (Mv.of w)} {L : List Nat} {ρ : Env} {blks : List Blk}, Good (Cx.inside hX S hw hS') L m → TD.full T (vw (Cx.inside hX S hw hS') L ρ blks m) := fun g => TD.full.mono hS g.R
    refine .alloc fun _ => .loadB (.pointer (some ⟨T.tb, 0, none⟩)) b0 73 rfl b0e (.chk rfl (.chk rfl (.into hwX (hA hwX _ hq) ?_)))
    refine .loadG T.tb T.hd _ z.1 z.2.1 rfl (Nat.lt_succ_of_le (Nat.le_trans z1 hT.la)) (Nat.lt_succ_of_le (Nat.le_trans z2 hT.lb)) rfl (fun g => (cS g).2) ?_
    rw [T.F_all z1 z2]
    refine .loadB (.pointer (some ⟨T.tb, 0, none⟩)) b0 73 rfl b0e (.loadB (.int .i64 (i : Int)) b1 3 rfl b1e (.loadB (.int .i64 (j : Int)) b2 3 rfl b2e (.chk rfl (.chk rfl ?_))))
    refine .loadG T.tb T.hd _ i j rfl (Nat.lt_succ_of_le (Nat.le_trans hi hT.la)) (Nat.lt_succ_of_le (Nat.le_trans hj hT.lb)) rfl (fun g => (cS g).2) ?_
    rw [T.F_all hi hj]
    refine .env (by (try simp only [liE, letsOf, letU, snd, List.append_nil]); rfl) (.ite (fun h4 => ?_) (fun h4 => .leaveY (.inl ⟨rfl, rfl, rfl, ?_⟩)))
    · replace h4 : (ar .add .i64 z.2.2 (T.R z.1 z.2.1) == T.R i j) = true := h4
      rw [eadd] at h4
      have hpz : T.pc? i j z = true := h4
      rw [if_pos hpz] at hft
      have hcn : cnt (k + 1) = cnt k + 1 := by show ((T.steps i j).take (k + 1) |>.filter (T.pc? i j)).length = _; rw [hft, List.length_append]; rfl
      have hfa := filter_at (T.pc? i j) (T.steps i j) k hk (by rw [hze]; exact hpz)
      refine .yield hy (q := cnt k) (x := [stepV z]) hq (by rw [List.getElem?_map, T.cheap_eq, hfa, hze]; rfl) (fun hX' hw' hJ' => .no rfl (.leaveY (.inl ⟨rfl, rfl, rfl, by rw [hcn]; exact hJ'⟩))) (fun hX' hE => .yes rfl (.leaveY (.inr ⟨by decide, hE⟩)))
    · replace h4 : (ar .add .i64 z.2.2 (T.R z.1 z.2.1) == T.R i j) = false := h4
      rw [eadd] at h4
      have hpz : ¬ T.pc? i j z = true := by show ¬ (z.2.2 + T.R z.1 z.2.1 == T.R i j) = true; rw [h4]; simp
      rw [if_neg hpz] at hft
      have hcn : cnt (k + 1) = cnt k := by show ((T.steps i j).take (k + 1) |>.filter (T.pc? i j)).length = _; rw [hft]
      rw [hcn]; exact hq
  · rintro us m' hX _ ⟨rfl, rfl, hq⟩ hwX
    have hc : cnt ((T.steps i j).map stepU).length = ((T.cheap i j).map fun x => [stepV x]).length := by
      show (((T.steps i j).take ((T.steps i j).map stepU).length).filter (T.pc? i j)).length = _
      rw [List.take_of_length_le (by simp), List.length_map, T.cheap_eq]
    rw [hc] at hq
    exact .no rfl (.stop (.inl hq))
  · rintro n us m' hX hn _ hE hwX
    exact .ite (fun _ => .stop (.inr hE)) (fun _ => .stop (.inr hE))
/-- The distance, and the error. -/
def distE (ws : List Int) (gap : Int) (a b : List Snd) : Int × Int := if checkE ws gap [a, b] ≠ 0 then (0, checkE ws gap [a, b]) else (rst (fun x y => (distC x y ws gap).1) gap a b, 0)
theorem c_editDist (A B : WD) (pc : Option Addr) (cc : Nat) (ws : List Int) (gap : Int) (ha : Wok A.w) (hb : Wok B.w) :
    RetP Tryd.prog n_edit_Dist [A.v, B.v, costs pc ws.length cc gap] (fun R => WordAt R A.p A.w ∧ WordAt R B.p B.w ∧ CostsAt R pc ws ∧ TabOk R) (.tuple #[.int .i64 (distE ws gap A.w B.w).1, .int .i64 (distE ws gap A.w B.w).2]) := by
  refine Fn.of S_edit_Dist mx [.p A.p, .i A.w.length, .i A.cap, .p B.p, .i B.w.length, .i B.cap, .p pc, .i ws.length, .i cc, .i gap] rfl rfl fun c hp => .alloc fun b0 => ?_
  refine .callM (c_newTable A B pc cc ws gap ha hb) rfl rfl (fun g => ⟨hp.1.mono g.R, hp.2.1.mono g.R, hp.2.2.1.mono g.R, hp.2.2.2.mono g.R⟩) ?_
  rintro v mq hfr ⟨hv1, hv2⟩
  by_cases he : checkE ws gap [A.w, B.w] = 0
  · obtain ⟨tb, hT, rfl, hm⟩ := hv2 he
    refine ⟨[.p (some ⟨tb, 0, none⟩), .i 0], uOk_of rfl, rfl, .no rfl (.chk rfl (.chk rfl (.chk rfl (.chk rfl ?_))))⟩
    have hread : (gcells (TD.hd ⟨tb, A, B, pc, cc, ws, gap⟩) .i64 (TD.F ⟨tb, A, B, pc, cc, ws, gap⟩ 0 0))[4]? = some (.int .i64 (rst (fun x y => (distC x y ws gap).1) gap A.w B.w)) := by
      have := gcells_at (TD.hd ⟨tb, A, B, pc, cc, ws, gap⟩) .i64 (TD.F ⟨tb, A, B, pc, cc, ws, gap⟩ 0 0) 0 0 (by omega) (by omega)
      rw [TD.F_all _ (Nat.zero_le _) (Nat.zero_le _)] at this
      exact this
    refine .load1 (.int .i64 (rst (fun x y => (distC x y ws gap).1) gap A.w B.w)) (some ⟨tb, 0, none⟩) _ 4 rfl rfl (fun g k x hx => ⟨tb, 0, rfl, by rw [vw_mem g (show (Mem.emp.join mq) tb = _ from hm), Nat.zero_add]; simpa using hx⟩) hread (.ret rfl ?_)
    unfold distE
    rw [if_neg (by simp [he])]; rfl
  · obtain rfl := hv1 he
    refine ⟨[.p none, .i (checkE ws gap [A.w, B.w])], uOk_of rfl, rfl, .yes (by ((try simp only [evE, liE, letsOf, letU, snd]); (try simp only [cmE])); simp [he]) (.ret rfl ?_)⟩
    unfold distE
    rw [if_pos he]; rfl
end Go.Proofs.YtedfogpnmpmggaaDoor
/- edit.Score, edit.Near and edit.Ratio. -/
namespace Go.Sy
open Go Go.RowKit
/-! Pairs of numbers in cells. -/
def pcells (l : List (Int × Int)) : List Value := l.flatMap fun x => [.int .i64 x.1, .int .i64 x.2]
theorem pcells_len (l : List (Int × Int)) : (pcells l).length = l.length * 2 := by
  induction l with
  | nil => rfl
  | cons s w ih => simp only [pcells, List.flatMap_cons, List.length_append, List.length_cons] at *; rw [ih]; simp; omega
theorem pcells_append (a b : List (Int × Int)) : pcells (a ++ b) = pcells a ++ pcells b := List.flatMap_append ..
theorem pcells_at (w : List (Int × Int)) (j : Nat) (h : j < w.length) : (pcells w)[j * 2]? = some (.int .i64 w[j].1) ∧ (pcells w)[j * 2 + 1]? = some (.int .i64 w[j].2) := by
  induction w generalizing j with
  | nil => simp at h
  | cons s w ih =>
    cases j with
    | zero => exact ⟨rfl, rfl⟩
    | succ j =>
      have := ih j (by simpa using h)
      simp only [pcells, List.flatMap_cons, List.cons_append, List.nil_append] at *
      rw [show (j + 1) * 2 = j * 2 + 2 by omega, show j * 2 + 2 + 1 = (j * 2 + 1) + 2 by omega]
      simpa using this
section
variable {P : Program} {c : Cx} {L : List Nat} {ρ : Env} {blks : List Blk} {m : Mem} {R : Value → HW → Prop} {Dn : Nat → List U → HW → Prop} {A : List (List U → HW → Prop)}
theorem DenM.loadP {i : Nat} {I len : IT} {k : Tree} (w : List (Int × Int)) (j : Nat) (hj : j < w.length) (hw : Good c L m → Cells (vw c L ρ blks m) (ρ.ptr i) (pcells w)) (hk : DenM P R Dn k L (ρ ++ [.i w[j].1, .i w[j].2]) c m A) (hI : I.eval ρ = (j : Int) := by rfl) (hn : len.eval ρ = (w.length : Int) := by rfl) :
    DenM P R Dn (.chk (.pick (.cmp .geq I (.lit 0)) (.pick (.cmp .lss I len) (.some i) (.lit false)) (.lit false)) (.load i (.off I 2 (.lit 0)) [(.int .i64), (.int .i64)] blks k)) L ρ c m A := by
  have h := pcells_at w j hj
  refine .elem [.i w[j].1, .i w[j].2] (pcells w) j w.length hI hn hj rfl hw (by rw [pcells_len]; omega) (fun q v hv => ?_) hk
  simp only [Sh.freshs, Sh.fresh, SV.dens, SV.den, IT.eval, int_at, env_int_at1] at hv
  match q, hv with
  | 0, hv => simp at hv; rw [← hv]; exact h.1
  | 1, hv => simp at hv; rw [← hv]; exact h.2
  | q + 2, hv => simp at hv
end
def dC (ws : List Int) (gap : Int) : Snd → Snd → Int := fun x y => (distC x y ws gap).1
def scoreE (ws : List Int) (gap : Int) (a b : List Snd) (l : List (Int × Int)) : Int × Int :=
  if checkE ws gap [a, b] ≠ 0 then (0, checkE ws gap [a, b]) else match scoreA (dC ws gap) gap a b l 0 0 with | some s => (s, 0) | none => (0, 8)
theorem checkE_two {ws : List Int} {gap : Int} {a b : List Snd} (h : checkE ws gap [a, b] = 0) : checkC ws gap = 0 ∧ (a.length ≤ 32 ∧ ∀ s ∈ a, valid s = true) ∧ b.length ≤ 32 ∧ ∀ s ∈ b, valid s = true := by
  unfold checkE at h
  split at h
  · omega
  · have := checkL_two h
    exact ⟨by omega, checkW_zero this.1, checkW_zero this.2⟩
section
variable {d : Snd → Snd → Int} {g : Int} {a b : List Snd} {i j : Nat} {x : Int × Int}
theorem stepQ_both (hi : i < a.length) (hj : j < b.length) (h1 : x.1 = i) (h2 : x.2 = j) : stepQ d g a b i j x = some (i + 1, j + 1, d a[i] b[j]) := by
  unfold stepQ
  rw [List.getElem?_eq_getElem hi, List.getElem?_eq_getElem hj]
  simp only
  rw [if_pos (Prod.ext h1 h2)]
theorem stepQ_one (hi : i < a.length) (h1 : x.1 = i) (h2 : x.2 = -1) : stepQ d g a b i j x = some (i + 1, j, g) := by
  have hx : x = ((i : Int), -1) := Prod.ext h1 h2
  unfold stepQ
  rw [List.getElem?_eq_getElem hi]
  cases hb : b[j]? with
  | none => simp only; rw [if_pos hx]
  | some v => simp only; rw [if_neg (by rw [hx]; simp), if_pos hx]
theorem stepQ_two (hj : j < b.length) (h1 : x.1 = -1) (h2 : x.2 = j) : stepQ d g a b i j x = some (i, j + 1, g) := by
  have hx : x = (-1, (j : Int)) := Prod.ext h1 h2
  unfold stepQ
  rw [List.getElem?_eq_getElem hj]
  cases ha : a[i]? with
  | none => simp only; rw [if_pos hx]
  | some v => simp only; rw [if_neg (by rw [hx]; simp), if_neg (by rw [hx]; simp), if_pos hx]
theorem stepQ_none (h1 : ¬ ((i < a.length ∧ x.1 = i) ∧ (j < b.length ∧ x.2 = j))) (h2 : ¬ ((i < a.length ∧ x.1 = i) ∧ x.2 = -1)) (h3 : ¬ ((j < b.length ∧ x.2 = j) ∧ x.1 = -1)) : stepQ d g a b i j x = none := by
  unfold stepQ
  rcases Nat.lt_or_ge i a.length with hi | hi <;> rcases Nat.lt_or_ge j b.length with hj | hj
  · rw [List.getElem?_eq_getElem hi, List.getElem?_eq_getElem hj]
    simp only
    rw [if_neg (fun e => h1 (by rw [e]; exact ⟨⟨hi, rfl⟩, hj, rfl⟩)), if_neg (fun e => h2 (by rw [e]; exact ⟨⟨hi, rfl⟩, rfl⟩)), if_neg (fun e => h3 (by rw [e]; exact ⟨⟨hj, rfl⟩, rfl⟩))]
  · rw [List.getElem?_eq_getElem hi, List.getElem?_eq_none hj]
    simp only
    rw [if_neg (fun e => h2 (by rw [e]; exact ⟨⟨hi, rfl⟩, rfl⟩))]
  · rw [List.getElem?_eq_none hi, List.getElem?_eq_getElem hj]
    simp only
    rw [if_neg (fun e => h3 (by rw [e]; exact ⟨⟨hj, rfl⟩, rfl⟩))]
  · rw [List.getElem?_eq_none hi, List.getElem?_eq_none hj]
end
theorem scoreA_cons (d : Snd → Snd → Int) (g : Int) (a b : List Snd) (x : Int × Int) (l : List (Int × Int)) (i j : Nat) : scoreA d g a b (x :: l) i j = (stepQ d g a b i j x).bind fun s => (scoreA d g a b l s.1 s.2.1).map (s.2.2 + ·) := rfl
theorem map_map_add (o : Option Int) (s t : Int) : (o.map (t + ·)).map (s + ·) = o.map (s + t + ·) := by cases o <;> simp [Int.add_assoc]
/-! The nearest. -/
def nearGo : Nat → Nat → Int → List Int → Nat × Int
  | _, p, best, [] => (p, best)
  | k, p, best, d :: ds => if k = 0 ∨ d < best then nearGo (k + 1) k d ds else nearGo (k + 1) p best ds
def nearE (ws : List Int) (gap : Int) (w : List Snd) (l : List (List Snd)) : Nat × Int × Int :=
  if checkE ws gap [w] ≠ 0 then (0, 0, checkE ws gap [w]) else if l.length > 256 then (0, 0, 12) else if checkE ws gap l ≠ 0 then (0, 0, checkE ws gap l) else if l.length = 0 then (0, 0, 5) else
    let r := nearGo 0 0 0 (l.map fun x => rst (dC ws gap) gap w x)
    (r.1, r.2, 0)
theorem checkL_zero {l : List (List Snd)} (h : checkL l = 0) : ∀ x ∈ l, checkW x = 0 := by
  induction l with
  | nil => simp
  | cons w l ih =>
    unfold checkL at h
    split at h
    · omega
    · intro x hx
      rcases List.mem_cons.1 hx with rfl | hx
      · omega
      · exact ih h x hx
theorem checkE_of {ws : List Int} {gap : Int} {l : List (List Snd)} (h : checkE ws gap l = 0) : checkC ws gap = 0 ∧ ∀ x ∈ l, checkW x = 0 := by
  unfold checkE at h
  split at h
  · omega
  · exact ⟨by omega, checkL_zero h⟩
theorem checkE_mk {ws : List Int} {gap : Int} {l : List (List Snd)} (h : checkC ws gap = 0) (hl : ∀ x ∈ l, checkW x = 0) : checkE ws gap l = 0 := by
  unfold checkE
  rw [if_neg (by simp [h])]
  induction l with
  | nil => rfl
  | cons w l ih =>
    unfold checkL
    rw [if_neg (by simp [hl w (by simp)])]
    exact ih fun x hx => hl x (by simp [hx])
theorem nearGo_drop (k p : Nat) (best : Int) (ds : List Int) (h : k < ds.length) : nearGo k p best (ds.drop k) = if k = 0 ∨ ds[k] < best then nearGo (k + 1) k ds[k] (ds.drop (k + 1)) else nearGo (k + 1) p best (ds.drop (k + 1)) := by
  rw [List.drop_eq_getElem_cons h, nearGo]
/-! Lowest terms. -/
def gcdI (n d : Int) : Int := (Nat.gcd n.toNat d.toNat : Nat)
def lowest (n d : Int) : Int × Int := (n.tdiv (gcdI n d), d.tdiv (gcdI n d))
def ratioE (ws : List Int) (gap : Int) (a b : List Snd) : (Int × Int) × Int :=
  if (distE0 ws gap a b).2 ≠ 0 then ((0, 0), (distE0 ws gap a b).2) else if gap * ((a.length : Int) + b.length) = 0 then ((0, 1), 0) else (lowest (distE0 ws gap a b).1 (gap * ((a.length : Int) + b.length)), 0)
where distE0 (ws : List Int) (gap : Int) (a b : List Snd) : Int × Int := if checkE ws gap [a, b] ≠ 0 then (0, checkE ws gap [a, b]) else (rst (dC ws gap) gap a b, 0)
theorem gcdI_step {x y : Int} (hx : 0 ≤ x) (hy : 0 < y) : gcdI y (x.tmod y) = gcdI x y := by
  unfold gcdI
  rw [Int.tmod_eq_emod_of_nonneg hx]
  have : (x % y).toNat = x.toNat % y.toNat := by
    obtain ⟨n, rfl⟩ := Int.eq_ofNat_of_zero_le hx
    obtain ⟨k, rfl⟩ := Int.eq_ofNat_of_zero_le (Int.le_of_lt hy)
    exact (congrArg Int.toNat (Int.natCast_emod n k).symm).trans (Int.toNat_natCast _)
  rw [this, Nat.gcd_comm y.toNat, ← Nat.gcd_rec y.toNat x.toNat, Nat.gcd_comm]
theorem gcdI_zero {x : Int} (hx : 0 ≤ x) : gcdI x 0 = x := by unfold gcdI; simp; omega
end Go.Sy
namespace Go.Proofs.YtedfogpnmpmggaaDoor
open Go Go.Sy Go.RowKit
theorem distE_eq (ws : List Int) (gap : Int) (a b : List Snd) : distE ws gap a b = ratioE.distE0 ws gap a b := rfl
set_option maxHeartbeats 1000000 in
theorem c_editScore (A B : WD) (ql : Option Addr) (cl : Nat) (l : List (Int × Int)) (pc : Option Addr) (cc : Nat) (ws : List Int) (gap : Int) (ha : Wok A.w) (hb : Wok B.w) (hll : l.length < 2 ^ 62) :
    RetP Tryd.prog n_edit_Score [A.v, B.v, slv ql l.length cl, costs pc ws.length cc gap] (fun R => WordAt R A.p A.w ∧ WordAt R B.p B.w ∧ Cells R ql (pcells l) ∧ CostsAt R pc ws ∧ TabOk R) (.tuple #[.int .i64 (scoreE ws gap A.w B.w l).1, .int .i64 (scoreE ws gap A.w B.w l).2]) := by
  obtain ⟨pa, ca, a⟩ := A
  obtain ⟨pb, cb, b⟩ := B
  simp only [] at ha hb
  refine Fn.of S_edit_Score mx [.p pa, .i a.length, .i ca, .p pb, .i b.length, .i cb, .p ql, .i l.length, .i cl, .p pc, .i ws.length, .i cc, .i gap] rfl rfl fun c hp => .alloc fun b0 => .alloc fun b1 => ?_
  obtain ⟨hp1, hp2, hp5, hp3, hp4⟩ := hp
  refine .callV (c_editCheck pc cc ws gap (some ⟨b1, 0, none⟩) 2 [⟨pa, ca, a⟩, ⟨pb, cb, b⟩] (by simp [ha, hb]) (by simp)) (fun g => ⟨hp3.mono g.R, fun i x hx => ⟨b1, 0, rfl, ?_⟩, ?_⟩) (.ite (fun h1 => .ret rfl ?_) (fun h1 => ?_))
  · rw [g.at (j := 1) rfl rfl, Nat.zero_add]; exact hx
  · simp only [List.mem_cons, List.not_mem_nil, or_false]
    rintro x (rfl | rfl)
    · exact hp1.mono g.R
    · exact hp2.mono g.R
  · ((try simp only [evE, liE, letsOf, letU, snd] at h1); (try simp only [cmE] at h1))
    replace h1 : checkE ws gap [a, b] ≠ 0 := h1
    unfold scoreE
    rw [if_pos h1]; ((try simp only [evE, liE, letsOf, letU, snd]); (try simp only [cmE])); rfl
  ((try simp only [evE, liE, letsOf, letU, snd] at h1); (try simp only [cmE] at h1))
  replace h1 : checkE ws gap [a, b] = 0 := h1
  obtain ⟨hc, ⟨la, va⟩, lb, vb⟩ := checkE_two h1
  rw [show checkE ws gap (List.map (fun x : WD => x.w) [⟨pa, ca, a⟩, ⟨pb, cb, b⟩]) = 0 from h1]
  have hspec : scoreE ws gap a b l = match scoreA (dC ws gap) gap a b l 0 0 with | some s => (s, 0) | none => (0, 8) := by unfold scoreE; rw [if_neg (by simp [h1])]
  have hg := (checkC_zero hc).2
  refine .env (by (try simp only [liE, letsOf, letU, snd, List.append_nil]); rfl) (.chk (by ((try simp only [evE, liE, letsOf, letU, snd]); (try simp only [cmE])); omega) (.loop (fun n us _ => ∃ (x y : Int) (i j : Nat) (s : Int) (k : Nat), us = [.i x, .i y, .i i, .i j, .i s, .i k] ∧ n + k = l.length ∧ i ≤ a.length ∧ j ≤ b.length ∧ 0 ≤ s ∧ s ≤ 25769803776 * ((i : Int) + j) ∧ scoreA (dC ws gap) gap a b l 0 0 = (scoreA (dC ws gap) gap a b (l.drop k) i j).map (s + ·)) l.length
    ⟨0, 0, 0, 0, 0, 0, rfl, rfl, Nat.zero_le _, Nat.zero_le _, by omega, by omega, by cases h : scoreA (dC ws gap) gap a b l 0 0 <;> simp [h]⟩ ?_))
  rintro n _ m _ ⟨x, y, i, j, s, k, rfl, hn, hi, hj, s0, s1, hs⟩
  refine .ite (fun h2 => ?_) (fun h2 => ?_) <;> ((try simp only [evE, liE, letsOf, letU, snd] at h2); (try simp only [cmE] at h2))
  · have hk : k < l.length := by omega
    rw [List.drop_eq_getElem_cons hk, scoreA_cons] at hs
    refine .loadP l k hk (fun g => hp5.mono g.R) (.alloc fun _ => .chk (by ((try simp only [evE, liE, letsOf, letU, snd]); (try simp only [cmE])); omega) (.chk (by ((try simp only [evE, liE, letsOf, letU, snd]); (try simp only [cmE])); omega) ?_))
    have ei := add_i64 i (by omega)
    have ej := add_i64 j (by omega)
    have ek := add_i64 k (by omega)
    refine .ite (fun h3 => ?_) (fun h3 => .ite (fun h4 => ?_) (fun h4 => .ite (fun h5 => ?_) (fun h5 => .ret rfl ?_))) <;> ((try simp only [evE, liE, letsOf, letU, snd] at h3); (try simp only [cmE] at h3))
    · obtain ⟨⟨q1, q2⟩, q3, q4⟩ := h3
      have hia : i < a.length := by omega
      have hjb : j < b.length := by omega
      rw [stepQ_both hia hjb q2 q4, Option.bind_some, map_map_add] at hs
      have hdp := distC_pos (x := a[i]) (y := b[j]) hc
      refine .loadW a i hia (fun g => hp1.mono g.R) (.loadW b j hjb (fun g => hp2.mono g.R) (.callV (c_dist a[i] b[j] pc cc ws gap (ha.at hia) (hb.at hjb)) (fun g => ⟨hp3.mono g.R, hp4.mono g.R⟩) (.again rfl ⟨n - 1, by omega, x, y, i + 1, j + 1, s + (distC a[i] b[j] ws gap).1, k + 1, ?_, by omega, by omega, by omega, by omega, by omega, hs⟩)))
      (simp only [evE, liE, letsOf, letU, snd, Sh.uss, Sh.us, atAddr, map_add0, List.append_nil]); rw [ei, ej, ek, addI (by omega) (by omega)]
    · ((try simp only [evE, liE, letsOf, letU, snd] at h4); (try simp only [cmE] at h4))
      obtain ⟨⟨q1, q2⟩, q3⟩ := h4
      have hia : i < a.length := by omega
      rw [stepQ_one hia q2 q3, Option.bind_some, map_map_add] at hs
      refine .again rfl ⟨n - 1, by omega, x, y, i + 1, j, s + gap, k + 1, ?_, by omega, by omega, by omega, by omega, by omega, hs⟩
      (simp only [evE, liE, letsOf, letU, snd, Sh.uss, Sh.us, atAddr, map_add0, List.append_nil]); rw [ei, ek, addI (by omega) (by omega)]
    · ((try simp only [evE, liE, letsOf, letU, snd] at h5); (try simp only [cmE] at h5))
      obtain ⟨⟨q1, q2⟩, q3⟩ := h5
      have hjb : j < b.length := by omega
      rw [stepQ_two hjb q3 q2, Option.bind_some, map_map_add] at hs
      refine .again rfl ⟨n - 1, by omega, x, y, i, j + 1, s + gap, k + 1, ?_, by omega, by omega, by omega, by omega, by omega, hs⟩
      (simp only [evE, liE, letsOf, letU, snd, Sh.uss, Sh.us, atAddr, map_add0, List.append_nil]); rw [ej, ek, addI (by omega) (by omega)]
    · ((try simp only [evE, liE, letsOf, letU, snd] at h4); (try simp only [cmE] at h4))
      ((try simp only [evE, liE, letsOf, letU, snd] at h5); (try simp only [cmE] at h5))
      rw [stepQ_none (by
        rintro ⟨⟨q1, q2⟩, q3, q4⟩
        rcases h3 with (h | h) | (h | h)
        · omega
        · exact h q2
        · omega
        · exact h q4) (by
        rintro ⟨⟨q1, q2⟩, q3⟩
        rcases h4 with (h | h) | h
        · omega
        · exact h q2
        · exact h q3) (by
        rintro ⟨⟨q1, q2⟩, q3⟩
        rcases h5 with (h | h) | h
        · omega
        · exact h q2
        · exact h q3)] at hs
      rw [hspec, hs]; ((try simp only [evE, liE, letsOf, letU, snd]); (try simp only [cmE])); rfl
  · rw [List.drop_of_length_le (by omega), scoreA] at hs
    refine .chk (by ((try simp only [evE, liE, letsOf, letU, snd]); (try simp only [cmE])); omega) (.ite (fun h3 => .ret rfl ?_) (fun h3 => .chk (by ((try simp only [evE, liE, letsOf, letU, snd]); (try simp only [cmE])); omega) (.ite (fun h4 => .ret rfl ?_) (fun h4 => .ret rfl ?_)))) <;> ((try simp only [evE, liE, letsOf, letU, snd] at h3); (try simp only [cmE] at h3))
    · rw [if_neg (by omega)] at hs
      rw [hspec, hs]; ((try simp only [evE, liE, letsOf, letU, snd]); (try simp only [cmE])); rfl
    · ((try simp only [evE, liE, letsOf, letU, snd] at h4); (try simp only [cmE] at h4))
      rw [if_neg (by omega)] at hs
      rw [hspec, hs]; ((try simp only [evE, liE, letsOf, letU, snd]); (try simp only [cmE])); rfl
    · ((try simp only [evE, liE, letsOf, letU, snd] at h4); (try simp only [cmE] at h4))
      rw [if_pos (by omega)] at hs
      rw [hspec, hs]; ((try simp only [evE, liE, letsOf, letU, snd]); (try simp only [cmE])); simp
theorem c_editNear (W : WD) (ql : Option Addr) (cl : Nat) (l : List WD) (pc : Option Addr) (cc : Nat) (ws : List Int) (gap : Int) (hw : Wok W.w) (hl : ∀ x ∈ l, Wok x.w) (hll : l.length < 2 ^ 62) :
    RetP Tryd.prog n_edit_Near [W.v, slv ql l.length cl, costs pc ws.length cc gap] (fun R => WordAt R W.p W.w ∧ WordsAt R ql l ∧ CostsAt R pc ws ∧ TabOk R) (.tuple #[.int .i64 (nearE ws gap W.w (l.map (·.w))).1, .int .i64 (nearE ws gap W.w (l.map (·.w))).2.1, .int .i64 (nearE ws gap W.w (l.map (·.w))).2.2]) := by
  obtain ⟨pw, cw, w⟩ := W
  simp only [] at hw
  refine Fn.of S_edit_Near mx [.p pw, .i w.length, .i cw, .p ql, .i l.length, .i cl, .p pc, .i ws.length, .i cc, .i gap] rfl rfl fun c hp => .alloc fun b0 => .alloc fun b1 => ?_
  obtain ⟨hp1, hp2, hp3, hp4⟩ := hp
  refine .callV (c_editCheck pc cc ws gap (some ⟨b1, 0, none⟩) 1 [⟨pw, cw, w⟩] (by simp [hw]) (by simp)) (fun g => ⟨hp3.mono g.R, fun i x hx => ⟨b1, 0, rfl, ?_⟩, ?_⟩) (.ite (fun h1 => .ret rfl ?_) (fun h1 => ?_))
  · rw [g.at (j := 1) rfl rfl, Nat.zero_add]; exact hx
  · simp only [List.mem_cons, List.not_mem_nil, or_false]
    rintro x rfl
    exact hp1.mono g.R
  · ((try simp only [evE, liE, letsOf, letU, snd] at h1); (try simp only [cmE] at h1))
    replace h1 : checkE ws gap [w] ≠ 0 := h1
    unfold nearE
    rw [if_pos h1]; ((try simp only [evE, liE, letsOf, letU, snd]); (try simp only [cmE])); rfl
  ((try simp only [evE, liE, letsOf, letU, snd] at h1); (try simp only [cmE] at h1))
  replace h1 : checkE ws gap [w] = 0 := h1
  refine .chk (by ((try simp only [evE, liE, letsOf, letU, snd]); (try simp only [cmE])); omega) (.ite (fun h2 => .ret rfl ?_) (fun h2 => .callV (c_editCheck pc cc ws gap ql cl l hl hll) (fun g => ⟨hp3.mono g.R, hp2.mono g.R⟩) (.ite (fun h3 => .ret rfl ?_) (fun h3 => .chk (by ((try simp only [evE, liE, letsOf, letU, snd]); (try simp only [cmE])); omega) (.ite (fun h4 => .ret rfl ?_) (fun h4 => ?_)))))) <;> ((try simp only [evE, liE, letsOf, letU, snd] at h2); (try simp only [cmE] at h2))
  · unfold nearE
    rw [if_neg (by simp [h1]), if_pos (by rw [List.length_map]; omega)]; ((try simp only [evE, liE, letsOf, letU, snd]); (try simp only [cmE])); rfl
  · ((try simp only [evE, liE, letsOf, letU, snd] at h3); (try simp only [cmE] at h3))
    unfold nearE
    rw [if_neg (by simp [h1]), if_neg (by rw [List.length_map]; omega), if_pos h3]; ((try simp only [evE, liE, letsOf, letU, snd]); (try simp only [cmE])); rfl
  · ((try simp only [evE, liE, letsOf, letU, snd] at h3); (try simp only [cmE] at h3))
    ((try simp only [evE, liE, letsOf, letU, snd] at h4); (try simp only [cmE] at h4))
    unfold nearE
    rw [if_neg (by simp [h1]), if_neg (by rw [List.length_map]; omega), if_neg (by simp [h3]), if_pos (by rw [List.length_map]; omega)]; ((try simp only [evE, liE, letsOf, letU, snd]); (try simp only [cmE])); rfl
  ((try simp only [evE, liE, letsOf, letU, snd] at h3); (try simp only [cmE] at h3))
  ((try simp only [evE, liE, letsOf, letU, snd] at h4); (try simp only [cmE] at h4))
  have hspec : nearE ws gap w (l.map (·.w)) = ((nearGo 0 0 0 ((l.map (·.w)).map fun x => rst (dC ws gap) gap w x)).1, (nearGo 0 0 0 ((l.map (·.w)).map fun x => rst (dC ws gap) gap w x)).2, 0) := by
    unfold nearE
    rw [if_neg (by simp [h1]), if_neg (by rw [List.length_map]; omega), if_neg (by simp [h3]), if_neg (by rw [List.length_map]; omega)]
  generalize hds : ((l.map (·.w)).map fun x => rst (dC ws gap) gap w x) = ds at hspec
  have hdl : ds.length = l.length := by rw [← hds]; simp
  obtain ⟨hc, hw0⟩ := checkE_of h1
  obtain ⟨_, hl0⟩ := checkE_of h3
  refine .env (by (try simp only [liE, letsOf, letU, snd, List.append_nil]); rfl) (.chk (by ((try simp only [evE, liE, letsOf, letU, snd]); (try simp only [cmE])); omega) (.loop (fun n us _ => ∃ (p : Nat) (best : Int) (k : Nat), us = [.i p, .i best, .i k] ∧ n + k = l.length ∧ nearGo 0 0 0 ds = nearGo k p best (ds.drop k)) l.length ⟨0, 0, 0, rfl, rfl, rfl⟩ ?_))
  rintro n _ m _ ⟨p, best, k, rfl, hn, hs⟩
  refine .ite (fun h5 => ?_) (fun h5 => .ret rfl ?_) <;> ((try simp only [evE, liE, letsOf, letU, snd] at h5); (try simp only [cmE] at h5))
  · have hk : k < l.length := by omega
    rw [nearGo_drop k p best ds (by omega)] at hs
    have hdk : ds[k]'(by omega) = rst (dC ws gap) gap w l[k].w := by
      simp only [← hds]
      simp
    rw [hdk] at hs
    have hcd := c_editDist ⟨pw, cw, w⟩ l[k] pc cc ws gap hw (hl _ (List.getElem_mem hk))
    have hd0 : distE ws gap w l[k].w = (rst (dC ws gap) gap w l[k].w, 0) := by
      unfold distE
      rw [if_neg]; rfl
      simp only [ne_eq, Decidable.not_not]
      refine checkE_mk hc fun x hx => ?_
      simp only [List.mem_cons, List.not_mem_nil, or_false] at hx
      rcases hx with rfl | rfl
      · exact hw0 _ (by simp)
      · exact hl0 _ (List.mem_map.2 ⟨_, List.getElem_mem hk, rfl⟩)
    simp only [] at hcd
    rw [hd0] at hcd
    have ek := add_i64 k (by omega)
    refine .loadWD l k hk (fun g => hp2.1.mono g.R) (.callV hcd (fun g => ⟨hp1.mono g.R, (hp2.2 _ (List.getElem_mem hk)).mono g.R, hp3.mono g.R, hp4.mono g.R⟩) (.env (by (try simp only [liE, letsOf, letU, snd, List.append_nil]); rfl) (.ite (fun h6 => .again rfl ⟨n - 1, by omega, k, rst (dC ws gap) gap w l[k].w, k + 1, ?_, by omega, ?_⟩) (fun h6 => .again rfl ⟨n - 1, by omega, p, best, k + 1, ?_, by omega, ?_⟩)))) <;> ((try simp only [evE, liE, letsOf, letU, snd] at h6); (try simp only [cmE] at h6))
    · (simp only [evE, liE, letsOf, letU, snd, Sh.uss, Sh.us, atAddr, map_add0, List.append_nil]); rw [ek]
    · rw [hs, if_pos (by omega)]
    · (simp only [evE, liE, letsOf, letU, snd, Sh.uss, Sh.us, atAddr, map_add0, List.append_nil]); rw [ek]
    · rw [hs, if_neg (by omega)]
  · rw [List.drop_of_length_le (by omega)] at hs
    rw [hspec, hs]; rfl
theorem gcd_pos {n d : Int} (hd : 0 < d) : 0 < gcdI n d := by
  unfold gcdI
  have := Nat.gcd_pos_of_pos_right n.toNat (n := d.toNat) (by omega)
  omega
theorem c_editRatio (A B : WD) (pc : Option Addr) (cc : Nat) (ws : List Int) (gap : Int) (ha : Wok A.w) (hb : Wok B.w) :
    RetP Tryd.prog n_edit_Ratio [A.v, B.v, costs pc ws.length cc gap] (fun R => WordAt R A.p A.w ∧ WordAt R B.p B.w ∧ CostsAt R pc ws ∧ TabOk R) (.tuple #[.agg #[.int .i64 (ratioE ws gap A.w B.w).1.1, .int .i64 (ratioE ws gap A.w B.w).1.2], .int .i64 (ratioE ws gap A.w B.w).2]) := by
  obtain ⟨pa, ca, a⟩ := A
  obtain ⟨pb, cb, b⟩ := B
  simp only [] at ha hb
  refine Fn.of S_edit_Ratio mx [.p pa, .i a.length, .i ca, .p pb, .i b.length, .i cb, .p pc, .i ws.length, .i cc, .i gap] rfl rfl fun c hp => .alloc fun _ => .alloc fun _ => .callV (c_editDist ⟨pa, ca, a⟩ ⟨pb, cb, b⟩ pc cc ws gap ha hb) (fun g => ⟨hp.1.mono g.R, hp.2.1.mono g.R, hp.2.2.1.mono g.R, hp.2.2.2.mono g.R⟩) ?_
  simp only []
  unfold ratioE
  rw [← distE_eq]
  generalize hde : distE ws gap a b = de
  refine .env (by (try simp only [liE, letsOf, letU, snd, List.append_nil]); rfl) (.ite (fun h1 => .ret rfl ?_) (fun h1 => ?_)) <;> ((try simp only [evE, liE, letsOf, letU, snd] at h1); (try simp only [cmE] at h1))
  · rw [if_pos h1]; ((try simp only [evE, liE, letsOf, letU, snd]); (try simp only [cmE]))
  rw [if_neg (by simp [h1])]
  have he : checkE ws gap [a, b] = 0 := by
    refine Classical.byContradiction fun hn => ?_
    rw [← hde] at h1
    unfold distE at h1
    rw [if_pos hn] at h1
    exact hn h1
  obtain ⟨hc, ⟨la, va⟩, lb, vb⟩ := checkE_two he
  have hg := (checkC_zero hc).2
  have hd1 : de.1 = rst (dC ws gap) gap a b := by rw [← hde]; unfold distE; rw [if_neg (by simp [he])]; rfl
  have hr0 : 0 ≤ de.1 := by rw [hd1]; exact rst_pos hg.1 (fun x y => (distC_pos hc).1) a b
  have hr1 : de.1 ≤ gap * ((a.length : Int) + b.length) := by
    rw [hd1]
    have := rst_le (d := dC ws gap) (g := gap) a b
    rwa [Int.natCast_add] at this
  have hm1 : gap * ((a.length : Int) + b.length) ≤ 1073741824 * 64 := Int.le_trans (Int.mul_le_mul_of_nonneg_right hg.2.1 (by omega)) (by omega)
  have hm0 : 0 ≤ gap * ((a.length : Int) + b.length) := Int.mul_nonneg hg.1 (by omega)
  have e1 : ar .add .i64 (a.length : Int) (b.length : Int) = (a.length : Int) + b.length := addI (by omega) (by omega)
  have e2 : ar .mul .i64 gap (ar .add .i64 (a.length : Int) (b.length : Int)) = gap * ((a.length : Int) + b.length) := by rw [e1]; exact mulI (by omega) (by omega)
  generalize gap * ((a.length : Int) + b.length) = d at *
  refine .chk (by ((try simp only [evE, liE, letsOf, letU, snd]); (try simp only [cmE])); omega) (.chk (by ((try simp only [evE, liE, letsOf, letU, snd]); (try simp only [cmE])); omega) (.ite (fun h2 => .ret rfl ?_) (fun h2 => ?_)))
  · replace h2 : (ar .mul .i64 gap (ar .add .i64 (a.length : Int) (b.length : Int)) == 0) = true := h2
    rw [e2] at h2
    rw [if_pos (by simpa using h2)]; ((try simp only [evE, liE, letsOf, letU, snd]); (try simp only [cmE]))
  · replace h2 : (ar .mul .i64 gap (ar .add .i64 (a.length : Int) (b.length : Int)) == 0) = false := h2
    rw [e2] at h2
    have hd0 : d ≠ 0 := by simpa using h2
    rw [if_neg hd0]
    refine .loop (fun n us _ => ∃ x y : Int, us = [.i x, .i y] ∧ 0 ≤ x ∧ 0 ≤ y ∧ y = (n : Int) ∧ gcdI x y = gcdI de.1 d) d.toNat ⟨de.1, d, ?_, hr0, by omega, by omega, rfl⟩ ?_
    · (simp only [evE, liE, letsOf, letU, snd, Sh.uss, Sh.us, atAddr, map_add0, List.append_nil]); rw [e2]
    rintro n _ m _ ⟨x, y, rfl, hx, hy, hyn, hgc⟩
    refine .ite (fun h3 => .chk h3 (.again rfl ⟨(x.tmod y).toNat, ?_, y, x.tmod y, ?_, by omega, ?_, ?_, ?_⟩)) (fun h3 => ?_) <;> ((try simp only [evE, liE, letsOf, letU, snd] at h3); (try simp only [cmE] at h3))
    · have := Int.tmod_lt_of_pos x (by omega : 0 < y)
      have := Int.tmod_nonneg y hx
      omega
    · (simp only [evE, liE, letsOf, letU, snd, Sh.uss, Sh.us, atAddr, map_add0, List.append_nil]); rfl
    · exact Int.tmod_nonneg y hx
    · have := Int.tmod_nonneg y hx
      omega
    · rw [gcdI_step hx (by omega), hgc]
    · have hy0 : y = 0 := by omega
      subst hy0
      rw [gcdI_zero hx] at hgc
      have hp := gcd_pos (n := de.1) (d := d) (by omega)
      rw [← hgc] at hp
      refine .chk (by ((try simp only [evE, liE, letsOf, letU, snd]); (try simp only [cmE])); omega) (.chk (by ((try simp only [evE, liE, letsOf, letU, snd]); (try simp only [cmE])); omega) (.ret rfl ?_))
      have q1 : ar .quo .i64 de.1 x = de.1.tdiv x := by
        have a1 := Int.tdiv_nonneg hr0 (Int.le_of_lt hp)
        have a2 := Int.tdiv_le_self (b := x) hr0
        exact wrap_i64 (by omega) (by omega)
      have q2 : ar .quo .i64 d x = d.tdiv x := by
        have a1 := Int.tdiv_nonneg hm0 (Int.le_of_lt hp)
        have a2 := Int.tdiv_le_self (b := x) hm0
        exact wrap_i64 (by omega) (by omega)
      show Value.tuple #[.agg #[.int .i64 (ar .quo .i64 de.1 x), .int .i64 (ar .quo .i64 (ar .mul .i64 gap (ar .add .i64 (a.length : Int) (b.length : Int))) x)], .int .i64 0] = _
      rw [e2, q1, q2]
      unfold lowest
      rw [hgc]
end Go.Proofs.YtedfogpnmpmggaaDoor
/- edit.Ways. -/
namespace Go.Sy
open Go Go.RowKit
theorem wrap_u64 {n : Int} (h1 : 0 ≤ n) (h2 : n < 18446744073709551616) : IntKind.u64.wrap n = n := by
  unfold IntKind.wrap
  simp [IntKind.signed, IntKind.bits]
  omega
/-- What is filled in of a table of n + 1 rows of m + 1. -/
def fillF (n m : Nat) (R : Nat → Nat → Int) (i j : Nat) : Nat → Nat → Int := fun i' j' => if (i ≤ i' ∨ (i' + 1 = i ∧ j ≤ j')) ∧ i' ≤ n ∧ j' ≤ m then R i' j' else 0
section
variable {n m : Nat} {R : Nat → Nat → Int}
theorem fillF_start (j : Nat) (hj : m < j) : fillF n m R (n + 1) j = fun _ _ => 0 := by
  funext i' j'
  unfold fillF
  rw [if_neg (by omega)]
theorem fillF_row (i j : Nat) (hj : m < j) : fillF n m R (i + 1) 0 = fillF n m R i j := by
  funext i' j'
  unfold fillF
  by_cases h : (i + 1 ≤ i' ∨ (i' + 1 = i + 1 ∧ 0 ≤ j')) ∧ i' ≤ n ∧ j' ≤ m
  · rw [if_pos h, if_pos (by omega)]
  · rw [if_neg h, if_neg (by omega)]
theorem fillF_next (r s : Nat) (hr : r ≤ n) (hs : s ≤ m) : upd2 (fillF n m R (r + 1) (s + 1)) r s (R r s) = fillF n m R (r + 1) s := by
  funext i' j'
  unfold upd2 fillF
  by_cases h : i' = r ∧ j' = s
  · rw [if_pos h, if_pos (by omega), h.1, h.2]
  · rw [if_neg h]
    by_cases h2 : (r + 1 ≤ i' ∨ (i' + 1 = r + 1 ∧ s + 1 ≤ j')) ∧ i' ≤ n ∧ j' ≤ m
    · rw [if_pos h2, if_pos (by omega)]
    · rw [if_neg h2, if_neg (by omega)]
theorem fillF_here (r s : Nat) : upd2 (fillF n m R (r + 1) (s + 1)) r s 0 = fillF n m R (r + 1) (s + 1) := by
  funext i' j'
  unfold upd2
  by_cases h : i' = r ∧ j' = s
  · rw [if_pos h, h.1, h.2]; unfold fillF; rw [if_neg (by omega)]
  · rw [if_neg h]
theorem fillF_at {i j i' j' : Nat} (h : i ≤ i' ∨ (i' + 1 = i ∧ j ≤ j')) (h1 : i' ≤ n) (h2 : j' ≤ m) : fillF n m R i j i' j' = R i' j' := by unfold fillF; rw [if_pos ⟨h, h1, h2⟩]
end
def TD.W (T : TD) (i j : Nat) : Int := (WA T.d T.gap T.A.w T.B.w i j : Nat)
theorem TD.W_bound (T : TD) (i j : Nat) : 0 ≤ T.W i j ∧ T.W i j ≤ 9223372036854775808 := by
  have := way_le (d := T.d) (g := T.gap) (T.A.w.drop i) (T.B.w.drop j)
  unfold TD.W WA
  omega
theorem foldl_sat_le {l : List Nat} (x : Nat) (hx : x ≤ 2 ^ 63) : l.foldl sat x ≤ 2 ^ 63 := by
  induction l generalizing x with
  | nil => exact hx
  | cons y l ih => exact ih _ (sat_le _ _)
def waysE (ws : List Int) (gap : Int) (a b : List Snd) : Int × Int :=
  if checkE ws gap [a, b] ≠ 0 then (0, checkE ws gap [a, b]) else if way (dC ws gap) gap a b = 2 ^ 63 then (0, 7) else ((way (dC ws gap) gap a b : Nat), 0)
end Go.Sy
namespace Go.Proofs.YtedfogpnmpmggaaDoor
open Go Go.Sy Go.RowKit
theorem big90 : bigCells Tryd.prog 90 none = List.replicate 1089 (.int .u64 0) := by kernel_rfl
theorem gbox_ne {m : Mem} {b tb : Nat} {e e' : TypeId} {v : Value} {hd : List Value} {k : IntKind} {f : Nat → Nat → Int} (h : m b = some (box e v)) (h' : m tb = some (.cells (gcells hd k f).toArray e' (0, 0))) : b ≠ tb := box_ne h h'
set_option maxHeartbeats 1000000 in
theorem c_editWays (A B : WD) (pc : Option Addr) (cc : Nat) (ws : List Int) (gap : Int) (ha : Wok A.w) (hb : Wok B.w) :
    RetP Tryd.prog n_edit_Ways [A.v, B.v, costs pc ws.length cc gap] (fun R => WordAt R A.p A.w ∧ WordAt R B.p B.w ∧ CostsAt R pc ws ∧ TabOk R) (.tuple #[.int .i64 (waysE ws gap A.w B.w).1, .int .i64 (waysE ws gap A.w B.w).2]) := by
  obtain ⟨pa, ca, a⟩ := A
  obtain ⟨pb, cb, b⟩ := B
  simp only [] at ha hb
  refine Fn.of S_edit_Ways mx [.p pa, .i a.length, .i ca, .p pb, .i b.length, .i cb, .p pc, .i ws.length, .i cc, .i gap] rfl rfl fun c hp => .alloc fun b0 => ?_
  obtain ⟨hp1, hp2, hp3, hp4⟩ := hp
  refine .callM (c_newTable ⟨pa, ca, a⟩ ⟨pb, cb, b⟩ pc cc ws gap ha hb) rfl rfl (fun g => ⟨hp1.mono g.R, hp2.mono g.R, hp3.mono g.R, hp4.mono g.R⟩) ?_
  rintro v mq hfr ⟨hv1, hv2⟩
  by_cases he : checkE ws gap [a, b] = 0
  case neg =>
    obtain rfl := hv1 he
    refine ⟨[.p none, .i (checkE ws gap [a, b])], uOk_of rfl, rfl, .yes (by ((try simp only [evE, liE, letsOf, letU, snd]); (try simp only [cmE])); simp [he]) (.ret rfl ?_)⟩
    unfold waysE
    rw [if_pos he]; rfl
  obtain ⟨tb, hT, rfl, hmq⟩ := hv2 he
  refine ⟨[.p (some ⟨tb, 0, none⟩), .i 0], uOk_of rfl, rfl, .no rfl ?_⟩
  generalize hTe : (⟨tb, ⟨pa, ca, a⟩, ⟨pb, cb, b⟩, pc, cc, ws, gap⟩ : TD) = T at hT hmq
  have hTb : T.tb = tb := by rw [← hTe]
  have hTa : T.A.w = a := by rw [← hTe]
  have hTb' : T.B.w = b := by rw [← hTe]
  have hspec : waysE ws gap a b = if T.W 0 0 = 9223372036854775808 then (0, 7) else (T.W 0 0, 0) := by
    unfold waysE
    rw [if_neg (by simp [he])]
    rw [← hTe]
    show (if way (dC ws gap) gap a b = 2 ^ 63 then ((0 : Int), (7 : Int)) else _) = if ((way (dC ws gap) gap a b : Nat) : Int) = 9223372036854775808 then (0, 7) else (((way (dC ws gap) gap a b : Nat) : Int), 0)
    by_cases h : way (dC ws gap) gap a b = 2 ^ 63
    · rw [if_pos h, if_pos (by omega)]
    · rw [if_neg h, if_neg (by omega)]
  have hown := (hfr tb (by rw [hmq]; simp)).2.2
  have hS : TD.full T (TD.SF T c) := TD.SF_full (by rw [hTb]; exact hown) (by rw [← hTe]; exact hp1) (by rw [← hTe]; exact hp2) (by rw [← hTe]; exact hp3) hp4
  have hla : a.length ≤ 32 := by have := hT.la; rw [hTa] at this; exact this
  have hlb : b.length ≤ 32 := by have := hT.lb; rw [hTb'] at this; exact this
  have hm0 : (Mem.emp.join mq) tb = some (.cells (gcells T.hd .i64 (T.F 0 0)).toArray 79 (0, 0)) := hmq
  generalize Mem.emp.join mq = m0 at hm0 ⊢
  refine .allocb fun tw hw0 _ _ => ?_
  have hne : tb ≠ tw := fun e => by rw [e, hw0] at hm0; cases hm0
  have hm1 : (m0.upd tw (.cells (bigCells Tryd.prog 90 none).toArray 90 (0, 0))) tb = some (.cells (gcells T.hd .i64 (T.F 0 0)).toArray 79 (0, 0)) := by rw [Mem.upd_other _ _ hne]; exact hm0
  have hw1 : (m0.upd tw (.cells (bigCells Tryd.prog 90 none).toArray 90 (0, 0))) tw = some (.cells (gcells [] .u64 (fillF a.length b.length T.W (a.length + 1) (b.length + 1))).toArray 90 (0, 0)) := by
    rw [Mem.upd_same, big90, fillF_start _ (Nat.lt_succ_self _), gcells_zero]; rfl
  generalize m0.upd tw _ = m1 at hm1 hw1 ⊢
  clear hm0 hw0
  refine .chk (by ((try simp only [evE, liE, letsOf, letU, snd]); (try simp only [cmE])); omega) (.alloc fun b1 => ?_)
  refine .env (by (try simp only [liE, letsOf, letU, snd, List.append_nil]); rfl) (.loop (fun n us m => ∃ (i bi : Nat) (x : Int), us = [.p (some ⟨bi, 0, none⟩), .i x] ∧ i = n ∧ i ≤ a.length + 1 ∧ m tb = some (.cells (gcells T.hd .i64 (T.F 0 0)).toArray 79 (0, 0)) ∧ m tw = some (.cells (gcells [] .u64 (fillF a.length b.length T.W i (b.length + 1))).toArray 90 (0, 0)) ∧ ((bi = b1 ∧ x = (i : Int) - 1) ∨ m bi = some (box 3 (.int .i64 ((i : Int) - 1))))) (a.length + 1)
    ⟨a.length + 1, b1, _, rfl, rfl, Nat.le_refl _, hm1, hw1, .inl ⟨rfl, by simp [IT.eval, Env.int]⟩⟩ ?_)
  clear hm1 hw1
  rintro n _ m _ ⟨i, bi, x, rfl, rfl, hia, hm, hw, hbi⟩
  refine .loadV (.int .i64 ((i : Int) - 1)) bi 3 1 rfl (hbi.imp (fun ⟨e1, e2⟩ => ⟨_, by rw [e1]; rfl, rfl, by rw [← e2]; rfl⟩) id) (.ite (fun h2 => ?_) (fun h2 => ?_)) <;> ((try simp only [evE, liE, letsOf, letU, snd] at h2); (try simp only [cmE] at h2))
  · obtain ⟨r, rfl⟩ : ∃ r, i = r + 1 := ⟨i - 1, by omega⟩
    rw [show ((r + 1 : Nat) : Int) - 1 = (r : Int) by omega] at *
    refine .chk (by ((try simp only [evE, liE, letsOf, letU, snd]); (try simp only [cmE])); omega) (.alloc fun b2 => .env (by (try simp only [liE, letsOf, letU, snd, List.append_nil]); rfl) (.loop (fun n us m => ∃ (j bj : Nat) (y : Int), us = [.p (some ⟨bj, 0, none⟩), .i y] ∧ j = n ∧ j ≤ b.length + 1 ∧ m tb = some (.cells (gcells T.hd .i64 (T.F 0 0)).toArray 79 (0, 0)) ∧ m tw = some (.cells (gcells [] .u64 (fillF a.length b.length T.W (r + 1) j)).toArray 90 (0, 0)) ∧ ((bi = b1 ∧ x = (r : Int)) ∨ m bi = some (box 3 (.int .i64 (r : Int)))) ∧ ((bj = b2 ∧ y = (j : Int) - 1) ∨ m bj = some (box 3 (.int .i64 ((j : Int) - 1))))) (b.length + 1)
      ⟨b.length + 1, b2, _, rfl, rfl, Nat.le_refl _, hm, hw, hbi, .inl ⟨rfl, by simp [IT.eval, Env.int]⟩⟩ ?_))
    clear hbi hm hw
    rintro n _ m _ ⟨j, bj, y, rfl, rfl, hjb, hm, hw, hbi, hbj⟩
    refine .loadV (.int .i64 ((j : Int) - 1)) bj 3 2 rfl (hbj.imp (fun ⟨e1, e2⟩ => ⟨_, by rw [e1]; rfl, rfl, by rw [← e2]; rfl⟩) id) (.ite (fun h3 => ?_) (fun h3 => ?_)) <;> ((try simp only [evE, liE, letsOf, letU, snd] at h3); (try simp only [cmE] at h3))
    · obtain ⟨s, rfl⟩ : ∃ s, j = s + 1 := ⟨j - 1, by omega⟩
      rw [show ((s + 1 : Nat) : Int) - 1 = (s : Int) by omega] at *
      have hr : r ≤ a.length := by omega
      have hs : s ≤ b.length := by omega
      let x0 : Nat := if T.A.w.length ≤ r ∧ T.B.w.length ≤ s then 1 else 0
      let vals : List Nat := (T.cheap r s).map fun z => WA T.d T.gap T.A.w T.B.w z.1 z.2.1
      have hvals : ((vals.foldl sat x0 : Nat) : Int) = T.W r s := by
        unfold TD.W
        rw [WA_steps]; rfl
      have hx0 : x0 ≤ 2 ^ 63 := by
        show (if T.A.w.length ≤ r ∧ T.B.w.length ≤ s then 1 else 0) ≤ _
        split <;> omega
      refine .join (fun us m' => us = [.b (decide (r = a.length ∧ s = b.length))] ∧ m = m') ?_ ?_
      · refine .loadV (.int .i64 (r : Int)) bi 3 1 rfl (hbi.imp (fun ⟨e1, e2⟩ => ⟨_, by rw [e1]; rfl, rfl, by rw [← e2]; rfl⟩) id) (.chk (by ((try simp only [evE, liE, letsOf, letU, snd]); (try simp only [cmE])); omega) (.ite (fun h4 => .loadV (.int .i64 (s : Int)) bj 3 2 rfl (hbj.imp (fun ⟨e1, e2⟩ => ⟨_, by rw [e1]; rfl, rfl, by rw [← e2]; rfl⟩) id) (.chk (by ((try simp only [evE, liE, letsOf, letU, snd]); (try simp only [cmE])); omega) (.again rfl ⟨?_, rfl⟩))) (fun h4 => .again rfl ⟨?_, rfl⟩))) <;> ((try simp only [evE, liE, letsOf, letU, snd] at h4); (try simp only [cmE] at h4))
        · (simp only [evE, liE, letsOf, letU, snd, Sh.uss, Sh.us, atAddr, map_add0, List.append_nil])
          show [U.b ((s : Int) == (b.length : Int))] = _
          have h4' : r = a.length := by omega
          congr 2
          rw [Bool.eq_iff_iff]; simp [h4']; omega
        · (simp only [evE, liE, letsOf, letU, snd, Sh.uss, Sh.us, atAddr, map_add0, List.append_nil])
          have h4' : ¬ r = a.length := by omega
          simp [h4']
      rintro _ m' _ ⟨rfl, rfl⟩
      refine .join (fun us m' => us = [] ∧ m' tb = m tb ∧ m' tw = some (.cells (gcells [] .u64 (upd2 (fillF a.length b.length T.W (r + 1) (s + 1)) r s (x0 : Int))).toArray 90 (0, 0)) ∧ ∀ k, k ≠ tw → m' k = m k) ?_ ?_
      · refine .ite (fun h4 => ?_) (fun h4 => .again rfl ⟨rfl, rfl, ?_, fun k _ => rfl⟩) <;> ((try simp only [evE, liE, letsOf, letU, snd] at h4); (try simp only [cmE] at h4))
        · obtain ⟨h4, h4'⟩ : r = a.length ∧ s = b.length := h4
          have hx1 : x0 = 1 := if_pos (by rw [hTa, hTb']; omega)
          refine .loadV (.int .i64 (r : Int)) bi 3 1 rfl (hbi.imp (fun ⟨e1, e2⟩ => ⟨_, by rw [e1]; rfl, rfl, by rw [← e2]; rfl⟩) id) (.loadV (.int .i64 (s : Int)) bj 3 2 rfl (hbj.imp (fun ⟨e1, e2⟩ => ⟨_, by rw [e1]; rfl, rfl, by rw [← e2]; rfl⟩) id) ?_)
          refine .storeG tw 90 [] _ r s 1 rfl (by omega) (by omega) rfl hw rfl (.again rfl ⟨rfl, Mem.upd_other _ _ hne, ?_, fun k hk => Mem.upd_other _ _ hk⟩)
          rw [Mem.upd_same, hx1]; rfl
        · have hx1 : x0 = 0 := if_neg (by rw [hTa, hTb']; omega)
          rw [hx1]
          show m tw = some (.cells (gcells [] .u64 (upd2 (fillF a.length b.length T.W (r + 1) (s + 1)) r s 0)).toArray 90 (0, 0))
          rw [fillF_here]; exact hw
      rintro _ m' _ ⟨rfl, hmt, hw', hrest⟩
      replace hm : m' tb = some (.cells (gcells T.hd .i64 (T.F 0 0)).toArray 79 (0, 0)) := hmt.trans hm
      replace hbi : ((bi = b1 ∧ x = (r : Int)) ∨ m' bi = some (box 3 (.int .i64 (r : Int)))) := hbi.imp id fun h => (hrest _ (box_ne h hw)).trans h
      replace hbj : ((bj = b2 ∧ y = (s : Int)) ∨ m' bj = some (box 3 (.int .i64 (s : Int)))) := hbj.imp id fun h => (hrest _ (box_ne h hw)).trans h
      clear hrest hmt hw
      have hw := hw'
      clear hw'
      refine .loadV (.int .i64 (r : Int)) bi 3 1 rfl (hbi.imp (fun ⟨e1, e2⟩ => ⟨_, by rw [e1]; rfl, rfl, by rw [← e2]; rfl⟩) id) (.loadV (.int .i64 (s : Int)) bj 3 2 rfl (hbj.imp (fun ⟨e1, e2⟩ => ⟨_, by rw [e1]; rfl, rfl, by rw [← e2]; rfl⟩) id) ?_)
      refine .env (by (try simp only [liE, letsOf, letU, snd, List.append_nil]); rfl) (.callM (c_cheapest tb r s) rfl rfl (fun _ => trivial) ?_)
      rintro v mq' hfr' ⟨c0, c1, c2, rfl, rfl, h01, h02, h12⟩
      refine ⟨[.v _], ⟨_, rfl, rfl⟩, rfl, ?_⟩
      refine .range n___edit_table__cheapest_1 _ ((T.cheap r s).map stepU) (fun w => (TD.SF T c).le (Mv.of w)) (box3 c0 c1 c2 tb r s) m'
        (fun k us m' => us = [] ∧ m' tb = some (.cells (gcells T.hd .i64 (T.F 0 0)).toArray 79 (0, 0)) ∧ m' tw = some (.cells (gcells [] .u64 (upd2 (fillF a.length b.length T.W (r + 1) (s + 1)) r s (((vals.take k).foldl sat x0 : Nat) : Int))).toArray 90 (0, 0)) ∧ ((bi = b1 ∧ x = (r : Int)) ∨ m' bi = some (box 3 (.int .i64 (r : Int)))) ∧ ((bj = b2 ∧ y = (s : Int)) ∨ m' bj = some (box 3 (.int .i64 (s : Int))))) (fun _ _ _ => False)
        rfl (by kernel_rfl) rfl ?_ ?_ ?_ ?_ ?_ ?_ ?_ (fun _ _ _ _ _ hE => hE.elim)
      · intro k hk
        cases hq : box3 c0 c1 c2 tb r s k with
        | none => rfl
        | some o => exact absurd (hfr' k (by rw [hq]; simp)).1 hk
      · intro ux hx
        obtain ⟨z, _, rfl⟩ := List.mem_map.1 hx; rfl
      · have := it_cheapest T hT r s (by rw [hTa]; exact hr) (by rw [hTb']; exact hs) c0 c1 c2 h01 h02 h12 (TD.SF T c) hS
        rw [hTb] at this
        rw [List.map_map]
        exact this
      · exact ⟨rfl, hm, hw, hbi, hbj⟩
      · rintro k us m2 w ⟨_, hm2, _⟩ hwd
        exact TD.SF_le (by rw [hTb]; exact hm2) hwd
      · rintro k us ux m2 _ hx ⟨rfl, hm2, hw2, hbi2, hbj2⟩
        rw [List.getElem?_map, Option.map_eq_some_iff] at hx
        obtain ⟨z, hz, rfl⟩ := hx
        have hzm : z ∈ T.steps r s := by
          have := List.mem_of_getElem? hz
          rw [T.cheap_eq] at this
          exact (List.mem_filter.1 this).1
        obtain ⟨z1, z2, z3, _, _⟩ := T.steps_le (by rw [hTa]; exact hr) (by rw [hTb']; exact hs) hzm
        rw [hTa] at z1; rw [hTb'] at z2
        have hvk : vals[k]? = some (WA T.d T.gap T.A.w T.B.w z.1 z.2.1) := by
          show ((T.cheap r s).map fun z => WA T.d T.gap T.A.w T.B.w z.1 z.2.1)[k]? = _
          rw [List.getElem?_map, hz]; rfl
        have hvl : k < vals.length := (List.getElem?_eq_some_iff.1 hvk).1
        have hvs : (vals.take (k + 1)).foldl sat x0 = sat ((vals.take k).foldl sat x0) (WA T.d T.gap T.A.w T.B.w z.1 z.2.1) := by
          rw [List.take_succ_eq_append_getElem hvl, List.foldl_append, (List.getElem?_eq_some_iff.1 hvk).2]; rfl
        have hacc := foldl_sat_le (l := vals.take k) x0 hx0
        have hzw := T.W_bound z.1 z.2.1
        have hcell : ∀ {L : List Nat} {ρ : Env} {blks : List Blk}, Good c L m2 → Cells (vw c L ρ blks m2) (some ⟨tw, 0, none⟩) (gcells [] .u64 (upd2 (fillF a.length b.length T.W (r + 1) (s + 1)) r s (((vals.take k).foldl sat x0 : Nat) : Int))) := fun g k x hx => ⟨tw, 0, rfl, by rw [vw_mem g hw2, Nat.zero_add]; simpa using hx⟩
        refine .alloc fun _ => .loadV (.int .i64 (r : Int)) bi 3 1 rfl (hbi2.imp (fun ⟨e1, e2⟩ => ⟨_, by rw [e1]; rfl, rfl, by rw [← e2]; rfl⟩) id) (.loadV (.int .i64 (s : Int)) bj 3 2 rfl (hbj2.imp (fun ⟨e1, e2⟩ => ⟨_, by rw [e1]; rfl, rfl, by rw [← e2]; rfl⟩) id) ?_)
        refine .loadG tw [] _ r s rfl (by omega) (by omega) rfl hcell (.loadV (.int .i64 (r : Int)) bi 3 1 rfl (hbi2.imp (fun ⟨e1, e2⟩ => ⟨_, by rw [e1]; rfl, rfl, by rw [← e2]; rfl⟩) id) (.loadV (.int .i64 (s : Int)) bj 3 2 rfl (hbj2.imp (fun ⟨e1, e2⟩ => ⟨_, by rw [e1]; rfl, rfl, by rw [← e2]; rfl⟩) id) ?_))
        refine .loadG tw [] _ r s rfl (by omega) (by omega) rfl hcell (.loadG tw [] _ z.1 z.2.1 rfl (by omega) (by omega) rfl hcell ?_)
        rw [show upd2 (fillF a.length b.length T.W (r + 1) (s + 1)) r s (((vals.take k).foldl sat x0 : Nat) : Int) r s = (((vals.take k).foldl sat x0 : Nat) : Int) from if_pos ⟨rfl, rfl⟩,
          show upd2 (fillF a.length b.length T.W (r + 1) (s + 1)) r s (((vals.take k).foldl sat x0 : Nat) : Int) z.1 z.2.1 = T.W z.1 z.2.1 from (if_neg (by omega)).trans (fillF_at (by omega) z1 z2)]
        refine .storeG tw 90 [] _ r s (((vals.take (k + 1)).foldl sat x0 : Nat) : Int) rfl (by omega) (by omega) rfl hw2 ?_ (.leave (.inl ⟨rfl, rfl, ?_, ?_, ?_, ?_⟩))
        · rw [hvs]
          generalize (vals.take k).foldl sat x0 = acc at *
          have e1 : ar .sub .u64 9223372036854775808 (acc : Int) = 9223372036854775808 - (acc : Int) := wrap_u64 (by omega) (by omega)
          have e2 : ((WA T.d T.gap T.A.w T.B.w z.1 z.2.1 : Nat) : Int) = T.W z.1 z.2.1 := rfl
          show ar .add .u64 (acc : Int) (if T.W z.1 z.2.1 < ar .sub .u64 9223372036854775808 (acc : Int) then T.W z.1 z.2.1 else ar .sub .u64 9223372036854775808 (acc : Int)) = _
          rw [e1]
          generalize WA T.d T.gap T.A.w T.B.w z.1 z.2.1 = wz at *
          rw [← e2] at hzw ⊢
          have : (if (wz : Int) < 9223372036854775808 - (acc : Int) then (wz : Int) else 9223372036854775808 - (acc : Int)) = ((min wz (2 ^ 63 - acc) : Nat) : Int) := by
            split <;> omega
          rw [this]
          unfold sat
          show IntKind.u64.wrap _ = _
          rw [wrap_u64 (by omega) (by omega)]
          omega
        · rw [Mem.upd_other _ _ hne]; exact hm2
        · rw [Mem.upd_same, upd2_upd2]
        · exact hbi2.imp id fun h => by rw [Mem.upd_other _ _ (box_ne h hw2)]; exact h
        · exact hbj2.imp id fun h => by rw [Mem.upd_other _ _ (box_ne h hw2)]; exact h
      · rintro us m2 _ ⟨rfl, hm2, hw2, hbi2, hbj2⟩
        have hfull : vals.take ((T.cheap r s).map stepU).length = vals := by
          rw [List.take_of_length_le (by simp [vals])]
        rw [hfull, hvals, fillF_next r s hr hs] at hw2
        refine .loadV (.int .i64 (s : Int)) bj 3 2 rfl (hbj2.imp (fun ⟨e1, e2⟩ => ⟨_, by rw [e1]; rfl, rfl, by rw [← e2]; rfl⟩) id) (.alloc fun b3 => .againL rfl fun g => ⟨s, by omega, s, b3, y, ?_, rfl, by omega, ?_, ?_, ?_, ?_⟩)
        · (simp only [evE, liE, letsOf, letU, snd, Sh.uss, Sh.us, atAddr, map_add0, List.append_nil]); rfl
        · rw [blkMem_not fun h => by rw [(g.blk tb (List.drop_subset _ _ h)).1] at hm2; cases hm2]
          exact hm2
        · rw [blkMem_not fun h => by rw [(g.blk tw (List.drop_subset _ _ h)).1] at hw2; cases hw2]
          exact hw2
        · refine hbi2.imp id fun h => ?_
          rw [blkMem_not fun h2 => by rw [(g.blk bi (List.drop_subset _ _ h2)).1] at h; cases h]
          exact h
        · refine .inr ?_
          rw [blkMem_at (j := 0) (b := b3) (List.Nodup.sublist (List.drop_sublist _ _) g.nd) rfl rfl]
          simp only [SV.dens, SV.den, IT.eval, box]
          have : ar .sub .i64 (s : Int) 1 = (s : Int) - 1 := subI (by omega) (by omega)
          simp only [Env.int]
          first | (rw [← this]; rfl) | skip
    · have hj0 : j = 0 := by omega
      subst hj0
      refine .loadV (.int .i64 (r : Int)) bi 3 1 rfl (hbi.imp (fun ⟨e1, e2⟩ => ⟨_, by rw [e1]; rfl, rfl, by rw [← e2]; rfl⟩) id) (.alloc fun b3 => .againL rfl fun g => ⟨r, by omega, r, b3, x, ?_, rfl, by omega, ?_, ?_, ?_⟩)
      · (simp only [evE, liE, letsOf, letU, snd, Sh.uss, Sh.us, atAddr, map_add0, List.append_nil]); rfl
      · rw [blkMem_not fun h => by rw [(g.blk tb (List.drop_subset _ _ h)).1] at hm; cases hm]
        exact hm
      · rw [fillF_row r (b.length + 1) (Nat.lt_succ_self _)] at hw
        rw [blkMem_not fun h => by rw [(g.blk tw (List.drop_subset _ _ h)).1] at hw; cases hw]
        exact hw
      · refine .inr ?_
        rw [blkMem_at (j := 1) (b := b3) (List.Nodup.sublist (List.drop_sublist _ _) g.nd) rfl rfl]
        simp only [SV.dens, SV.den, IT.eval, box]
        have : ar .sub .i64 (r : Int) 1 = (r : Int) - 1 := subI (by omega) (by omega)
        simp only [Env.int]
        first | (rw [← this]; rfl) | skip
  · have hi0 : i = 0 := by omega
    subst hi0
    have hb0 := T.W_bound 0 0
    have hread : (gcells [] .u64 (fillF a.length b.length T.W 0 (b.length + 1)))[0]? = some (.int .u64 (T.W 0 0)) := by
      have := gcells_at [] .u64 (fillF a.length b.length T.W 0 (b.length + 1)) 0 0 (by omega) (by omega)
      rw [fillF_at (.inl (Nat.le_refl _)) (Nat.zero_le _) (Nat.zero_le _)] at this
      exact this
    have hcell : ∀ {L : List Nat} {ρ : Env} {blks : List Blk}, Good c L m → Cells (vw c L ρ blks m) (some ⟨tw, 0, none⟩) (gcells [] .u64 (fillF a.length b.length T.W 0 (b.length + 1))) := fun g k x hx => ⟨tw, 0, rfl, by rw [vw_mem g hw, Nat.zero_add]; simpa using hx⟩
    refine .chk rfl (.chk rfl (.load1 (.int .u64 (T.W 0 0)) (some ⟨tw, 0, none⟩) _ 0 rfl rfl hcell hread (.ite (fun h4 => .ret rfl ?_) (fun h4 => .chk rfl (.chk rfl (.load1 (.int .u64 (T.W 0 0)) (some ⟨tw, 0, none⟩) _ 0 rfl rfl hcell hread (.ret rfl ?_))))))) <;> ((try simp only [evE, liE, letsOf, letU, snd] at h4); (try simp only [cmE] at h4))
    · rw [hspec, if_pos h4]; rfl
    · rw [hspec, if_neg h4]
      show Value.tuple #[.int .i64 (IntKind.i64.wrap (T.W 0 0)), .int .i64 0] = _
      rw [wrap_i64 (by omega) (by omega)]
end Go.Proofs.YtedfogpnmpmggaaDoor
/- edit.Align. -/
namespace Go.Sy
open Go Go.RowKit
def alignE (ws : List Int) (gap : Int) (a b : List Snd) : List (Int × Int) := if checkE ws gap [a, b] ≠ 0 then [] else algn (dC ws gap) gap a b
theorem cheap_ne (T : TD) {i j : Nat} (h : i < T.A.w.length ∨ j < T.B.w.length) : T.cheap i j ≠ [] := by
  intro e
  have hs := RA_steps T.d T.gap T.A.w T.B.w i j
  have hf : ∀ x ∈ T.steps i j, ¬ T.pc? i j x = true := by
    rw [T.cheap_eq, List.filter_eq_nil_iff] at e
    exact e
  have hmin : ∀ (l : List Int) (x : Int), l.foldl min x = x ∨ l.foldl min x ∈ l := by
    intro l
    induction l with
    | nil => intro x; exact .inl rfl
    | cons y l ih =>
      intro x
      rcases ih (min x y) with h | h
      · rw [List.foldl_cons, h]
        rcases Int.le_total x y with h' | h'
        · rw [Int.min_eq_left h']; exact .inl rfl
        · rw [Int.min_eq_right h']; exact .inr (by simp)
      · exact .inr (by rw [List.foldl_cons]; simp [h])
  have hne : T.steps i j ≠ [] := by
    unfold TD.steps stepsA
    rcases Nat.lt_or_ge i T.A.w.length with h1 | h1 <;> rcases Nat.lt_or_ge j T.B.w.length with h2 | h2
    · rw [List.getElem?_eq_getElem h1, List.getElem?_eq_getElem h2]; simp
    · rw [List.getElem?_eq_getElem h1, List.getElem?_eq_none h2]; simp
    · rw [List.getElem?_eq_none h1, List.getElem?_eq_getElem h2]; simp
    · omega
  have hmem : RA T.d T.gap T.A.w T.B.w i j ∈ (T.steps i j).map fun x => x.2.2 + RA T.d T.gap T.A.w T.B.w x.1 x.2.1 := by
    rw [hs]
    show minL ((T.steps i j).map _) ∈ (T.steps i j).map _
    cases hl : T.steps i j with
    | nil => exact absurd hl hne
    | cons z l =>
      simp only [List.map_cons, minL]
      rcases hmin (l.map fun x => x.2.2 + RA T.d T.gap T.A.w T.B.w x.1 x.2.1) (z.2.2 + RA T.d T.gap T.A.w T.B.w z.1 z.2.1) with h | h
      · rw [h]; simp
      · exact List.mem_cons_of_mem _ h
  obtain ⟨x, hx, hxe⟩ := List.mem_map.1 hmem
  refine hf x hx ?_
  show (x.2.2 + T.R x.1 x.2.1 == T.R i j) = true
  rw [beq_iff_eq]; exact hxe
theorem algA_done (d : Snd → Snd → Int) (g : Int) (a b : List Snd) (k : Nat) {i j : Nat} (hi : a.length ≤ i) (hj : b.length ≤ j) : algA d g a b k i j = [] := by
  cases k with
  | zero => rfl
  | succ k =>
    unfold algA cheapA stepsA
    rw [List.getElem?_eq_none hi, List.getElem?_eq_none hj]; rfl
def pairOf (i j : Nat) (x : Stp) : Int × Int := ((if x.1 = i then -1 else (i : Int)), (if x.2.1 = j then -1 else (j : Int)))
theorem algA_step (T : TD) (k : Nat) {i j : Nat} {z : Stp} {l : List Stp} (h : T.cheap i j = z :: l) : algA T.d T.gap T.A.w T.B.w (k + 1) i j = pairOf i j z :: algA T.d T.gap T.A.w T.B.w k z.1 z.2.1 := by
  have h : cheapA T.d T.gap T.A.w T.B.w i j = z :: l := h
  simp only [algA, h]; rfl
theorem algA_len (d : Snd → Snd → Int) (g : Int) (a b : List Snd) (k i j : Nat) : (algA d g a b k i j).length ≤ k := by
  induction k generalizing i j with
  | zero => simp [algA]
  | succ k ih =>
    simp only [algA]
    split
    · simp
    · simp; exact ih _ _
theorem Row.block {m : Mem} {e : TypeId} {size : Nat} {q : Option Addr} {cap n : Nat} {xs : List Value} (h : Row m e size q cap n xs) {b : Nat} {e' : TypeId} {v : Value} (hb : m b = some (box e' v)) (he : e' ≠ e) {g : Nat} (hq : q = some ⟨g, 0, none⟩) : g ≠ b := by
  rintro rfl
  rcases h.2 with ⟨h1, _⟩ | ⟨g', cur, h1, h2, _⟩
  · rw [h1] at hq; cases hq
  · rw [h1] at hq; cases hq
    rw [hb] at h2
    simp only [box, Option.some.injEq, Obj.cells.injEq] at h2
    exact he h2.2.1
end Go.Sy
namespace Go.Proofs.YtedfogpnmpmggaaDoor
open Go Go.Sy Go.RowKit
theorem el33 : El Tryd.prog 33 57 2 16 := El.of (by kernel_rfl)
set_option maxHeartbeats 2000000 in
theorem c_editAlign (A B : WD) (pc : Option Addr) (cc : Nat) (ws : List Int) (gap : Int) (ha : Wok A.w) (hb : Wok B.w) :
    FnM Tryd.prog n_edit_Align [A.v, B.v, costs pc ws.length cc gap] (fun R => WordAt R A.p A.w ∧ WordAt R B.p B.w ∧ CostsAt R pc ws ∧ TabOk R) fun v mq _ =>
      ∃ q cq, v = .tuple #[slv q (alignE ws gap A.w B.w).length cq, .int .i64 (checkE ws gap [A.w, B.w])] ∧ Row mq 57 2 q cq (alignE ws gap A.w B.w).length (pcells (alignE ws gap A.w B.w)) := by
  obtain ⟨pa, ca, a⟩ := A
  obtain ⟨pb, cb, b⟩ := B
  simp only [] at ha hb
  refine FnM.of S_edit_Align mx [.p pa, .i a.length, .i ca, .p pb, .i b.length, .i cb, .p pc, .i ws.length, .i cc, .i gap] rfl rfl fun c hp => .alloc fun b0 => ?_
  obtain ⟨hp1, hp2, hp3, hp4⟩ := hp
  refine .callM (c_newTable ⟨pa, ca, a⟩ ⟨pb, cb, b⟩ pc cc ws gap ha hb) rfl rfl (fun g => ⟨hp1.mono g.R, hp2.mono g.R, hp3.mono g.R, hp4.mono g.R⟩) ?_
  rintro v mq hfr ⟨hv1, hv2⟩
  simp only [] at hv1 hv2 ⊢
  by_cases he : checkE ws gap [a, b] = 0
  case neg =>
    obtain rfl := hv1 he
    refine ⟨[.p none, .i (checkE ws gap [a, b])], uOk_of rfl, rfl, .yes (by ((try simp only [evE, liE, letsOf, letU, snd]); (try simp only [cmE])); simp [he]) (.ret rfl ⟨none, 0, ?_⟩)⟩
    unfold alignE
    rw [if_pos he]
    exact ⟨rfl, Row.nil _ _ _⟩
  obtain ⟨tb, hT, rfl, hmq⟩ := hv2 he
  refine ⟨[.p (some ⟨tb, 0, none⟩), .i 0], uOk_of rfl, rfl, .no rfl (.alloc fun b1 => ?_)⟩
  generalize hTe : (⟨tb, ⟨pa, ca, a⟩, ⟨pb, cb, b⟩, pc, cc, ws, gap⟩ : TD) = T at hT hmq
  have hTb : T.tb = tb := by rw [← hTe]
  have hTa : T.A.w = a := by rw [← hTe]
  have hTb' : T.B.w = b := by rw [← hTe]
  have hspec : alignE ws gap a b = algA T.d T.gap T.A.w T.B.w (a.length + b.length) 0 0 := by
    unfold alignE
    rw [if_neg (by simp [he]), ← hTe]; rfl
  have hlen64 : (alignE ws gap a b).length ≤ 64 := by
    have h1 := algA_len T.d T.gap T.A.w T.B.w (a.length + b.length) 0 0
    have := hT.la; have := hT.lb
    rw [hspec]
    rw [hTa] at *; rw [hTb'] at *
    omega
  have hown := (hfr tb (by rw [hmq]; simp)).2.2
  have hS : TD.full T (TD.SF T c) := TD.SF_full (by rw [hTb]; exact hown) (by rw [← hTe]; exact hp1) (by rw [← hTe]; exact hp2) (by rw [← hTe]; exact hp3) hp4
  have hm0 : (Mem.emp.join mq) tb = some (.cells (gcells T.hd .i64 (T.F 0 0)).toArray 79 (0, 0)) := hmq
  generalize Mem.emp.join mq = m0 at hm0 ⊢
  rw [he]
  -- the two variables
  refine .allocc fun bi0 hi0 _ _ => .allocc fun bj0 hj0 _ _ => ?_
  have hb0 : bi0 ≠ bj0 := fun e => by rw [← e, Mem.upd_same] at hj0; cases hj0
  have ht1 : tb ≠ bi0 := fun e => by rw [← e, hm0] at hi0; cases hi0
  have ht2 : tb ≠ bj0 := fun e => by rw [← e, Mem.upd_other _ _ ht1, hm0] at hj0; cases hj0
  refine .store bi0 0 #[.int .i64 0] 3 rfl rfl (by rw [Mem.upd_other _ _ hb0, Mem.upd_same]; rfl) (by simp) (.store bj0 0 #[.int .i64 0] 3 rfl rfl (by rw [Mem.upd_other _ _ (Ne.symm hb0), Mem.upd_same]; rfl) (by simp) ?_)
  refine .env (by (try simp only [liE, letsOf, letU, snd, List.append_nil]); rfl) (.loop (fun n us m => ∃ (i j bi bj : Nat) (q : Option Addr) (cq : Nat) (out : List (Int × Int)), us = [.p (some ⟨bi, 0, none⟩), .p (some ⟨bj, 0, none⟩), .p q, .i out.length, .i cq] ∧ i ≤ a.length ∧ j ≤ b.length ∧ bi ≠ bj ∧
      (a.length - i) + (b.length - j) ≤ n ∧ alignE ws gap a b = out ++ algA T.d T.gap T.A.w T.B.w n i j ∧ m tb = some (.cells (gcells T.hd .i64 (T.F 0 0)).toArray 79 (0, 0)) ∧ m bi = some (box 3 (.int .i64 (i : Int))) ∧ m bj = some (box 3 (.int .i64 (j : Int))) ∧ Row m 57 2 q cq out.length (pcells out)) (a.length + b.length)
    ⟨0, 0, bi0, bj0, none, 0, [], rfl, Nat.zero_le _, Nat.zero_le _, hb0, by omega, by rw [hspec]; rfl, ?_, ?_, Mem.upd_same .., Row.nil _ _ _⟩ ?_)
  · rw [Mem.upd_other _ _ ht2, Mem.upd_other _ _ ht1, Mem.upd_other _ _ ht2, Mem.upd_other _ _ ht1]; exact hm0
  · rw [Mem.upd_other _ _ hb0, Mem.upd_same]; rfl
  rintro n _ m _ ⟨i, j, bi, bj, q, cq, out, rfl, hi, hj, hbij, hn, hal, hm, hbi, hbj, hrow⟩
  have hla : a.length ≤ 32 := by have := hT.la; rw [hTa] at this; exact this
  have hlb : b.length ≤ 32 := by have := hT.lb; rw [hTb'] at this; exact this
  refine .join (fun us m' => us = [.b (decide (i < a.length ∨ j < b.length))] ∧ m = m') ?_ ?_
  · refine .loadB (.int .i64 (i : Int)) bi 3 rfl hbi (.chk (by ((try simp only [evE, liE, letsOf, letU, snd]); (try simp only [cmE])); omega) (.ite (fun h4 => .again rfl ⟨?_, rfl⟩) (fun h4 => .loadB (.int .i64 (j : Int)) bj 3 rfl hbj (.chk (by ((try simp only [evE, liE, letsOf, letU, snd]); (try simp only [cmE])); omega) (.again rfl ⟨?_, rfl⟩))))) <;> ((try simp only [evE, liE, letsOf, letU, snd] at h4); (try simp only [cmE] at h4))
    · (simp only [evE, liE, letsOf, letU, snd, Sh.uss, Sh.us, atAddr, map_add0, List.append_nil])
      have : i < a.length := by omega
      simp [this]
    · (simp only [evE, liE, letsOf, letU, snd, Sh.uss, Sh.us, atAddr, map_add0, List.append_nil])
      show [U.b (decide ((j : Int) < (b.length : Int)))] = _
      have : ¬ i < a.length := by omega
      simp [this]
  rintro _ m' _ ⟨rfl, rfl⟩
  refine .ite (fun h4 => ?_) (fun h4 => .ret rfl ?_)
  · have h4' : i < a.length ∨ j < b.length := by
      have h4 : decide (i < a.length ∨ j < b.length) = true := h4
      simpa using h4
    obtain ⟨k, rfl⟩ : ∃ k, n = k + 1 := ⟨n - 1, by omega⟩
    have hcn := cheap_ne T (i := i) (j := j) (by rw [hTa, hTb']; exact h4')
    obtain ⟨z, zs, hz⟩ : ∃ z zs, T.cheap i j = z :: zs := by
      cases h : T.cheap i j with
      | nil => exact absurd h hcn
      | cons z zs => exact ⟨z, zs, rfl⟩
    rw [algA_step T k hz] at hal
    have hzm : z ∈ T.steps i j := by
      have : z ∈ T.cheap i j := by rw [hz]; simp
      rw [T.cheap_eq] at this
      exact (List.mem_filter.1 this).1
    obtain ⟨z1, z2, z3, _, z5, z6, z7, z8⟩ := T.steps_le (by rw [hTa]; exact hi) (by rw [hTb']; exact hj) hzm
    rw [hTa] at z1; rw [hTb'] at z2
    have hnk : (a.length - z.1) + (b.length - z.2.1) ≤ k := by omega
    have hol : out.length < 64 := by
      have := congrArg List.length hal
      simp at this
      omega
    refine .loadB (.int .i64 (i : Int)) bi 3 rfl hbi (.loadB (.int .i64 (j : Int)) bj 3 rfl hbj ?_)
    refine .env (by (try simp only [liE, letsOf, letU, snd, List.append_nil]); rfl) (.callM (c_cheapest tb i j) rfl rfl (fun _ => trivial) ?_)
    rintro v mq' hfr' ⟨c0, c1, c2, rfl, rfl, h01, h02, h12⟩
    refine ⟨[.v _], ⟨_, rfl, rfl⟩, rfl, ?_⟩
    refine .join (fun us m' => ∃ (q' : Option Addr) (cq' : Nat), us = [.p q', .i ((out.length + 1 : Nat) : Int), .i cq'] ∧ m' tb = some (.cells (gcells T.hd .i64 (T.F 0 0)).toArray 79 (0, 0)) ∧ m' bi = some (box 3 (.int .i64 (z.1 : Int))) ∧ m' bj = some (box 3 (.int .i64 (z.2.1 : Int))) ∧ Row m' 57 2 q' cq' (out.length + 1) (pcells (out ++ [pairOf i j z]))) ?_ ?_
    · refine .range n___edit_table__cheapest_1 _ ((T.cheap i j).map stepU) (fun w => (TD.SF T c).le (Mv.of w)) (box3 c0 c1 c2 tb i j) m
        (fun k us m' => k = 0 ∧ us = [.p q, .i out.length, .i cq] ∧ m = m')
        (fun n us m' => n = 4 ∧ ∃ (q' : Option Addr) (cq' : Nat), us = [.p q', .i ((out.length + 1 : Nat) : Int), .i cq'] ∧ m' tb = some (.cells (gcells T.hd .i64 (T.F 0 0)).toArray 79 (0, 0)) ∧ m' bi = some (box 3 (.int .i64 (z.1 : Int))) ∧ m' bj = some (box 3 (.int .i64 (z.2.1 : Int))) ∧ Row m' 57 2 q' cq' (out.length + 1) (pcells (out ++ [pairOf i j z])))
        rfl (by kernel_rfl) rfl ?_ ?_ ?_ ?_ ?_ ?_ ?_ ?_
      · intro k hk
        cases hq : box3 c0 c1 c2 tb i j k with
        | none => rfl
        | some o => exact absurd (hfr' k (by rw [hq]; simp)).1 hk
      · intro ux hx
        obtain ⟨z, _, rfl⟩ := List.mem_map.1 hx; rfl
      · have := it_cheapest T hT i j (by rw [hTa]; exact hi) (by rw [hTb']; exact hj) c0 c1 c2 h01 h02 h12 (TD.SF T c) hS
        rw [hTb] at this
        rw [List.map_map]
        exact this
      · exact ⟨rfl, by (simp only [evE, liE, letsOf, letU, snd, Sh.uss, Sh.us, atAddr, map_add0, List.append_nil]), rfl⟩
      · rintro k us m2 w ⟨_, _, rfl⟩ hwd
        exact TD.SF_le (by rw [hTb]; exact hm) hwd
      · rintro k us ux m2 _ hx ⟨rfl, rfl, rfl⟩
        rw [hz] at hx
        simp only [List.map_cons, List.getElem?_cons_zero, Option.some.injEq] at hx
        subst hx
        unfold stepU
        refine .good fun g0 => ?_
        have hcb : ¬ c.hb.own bi := g0.mem bi (by rw [hbi]; simp)
        clear g0
        refine .alloc fun _ => .loadB (.int .i64 (i : Int)) bi 3 rfl hbi (.loadB (.int .i64 (j : Int)) bj 3 rfl hbj (.alloc fun _ => .loadB (.int .i64 (i : Int)) bi 3 rfl hbi ?_))
        refine .join (fun us m' => us = [.i (pairOf i j z).1, .i (j : Int)] ∧ m = m') ?_ ?_
        · refine .ite (fun h5 => .again rfl ⟨?_, rfl⟩) (fun h5 => .again rfl ⟨?_, rfl⟩) <;> replace h5 : ((z.1 : Int) == (i : Int)) = _ := h5
          · (simp only [evE, liE, letsOf, letU, snd, Sh.uss, Sh.us, atAddr, map_add0, List.append_nil])
            have : z.1 = i := by have := beq_iff_eq.1 h5; omega
            simp [pairOf, this]
          · (simp only [evE, liE, letsOf, letU, snd, Sh.uss, Sh.us, atAddr, map_add0, List.append_nil])
            have : ¬ z.1 = i := fun e => by rw [e, beq_self_eq_true] at h5; cases h5
            simp [pairOf, this]
        rintro _ m' _ ⟨rfl, rfl⟩
        refine .loadB (.int .i64 (j : Int)) bj 3 rfl hbj ?_
        refine .joinC (c.unk bi 3) (fun us m' => us = [.i (pairOf i j z).1, .i (pairOf i j z).2] ∧ m.del bi = m') ?_ ?_
        · refine .ite (fun h5 => .againU rfl hbi ⟨?_, rfl⟩) (fun h5 => .againU rfl hbi ⟨?_, rfl⟩) <;> replace h5 : ((z.2.1 : Int) == (j : Int)) = _ := h5
          · (simp only [evE, liE, letsOf, letU, snd, Sh.uss, Sh.us, atAddr, map_add0, List.append_nil])
            have : z.2.1 = j := by have := beq_iff_eq.1 h5; omega
            simp [pairOf, this]
          · (simp only [evE, liE, letsOf, letU, snd, Sh.uss, Sh.us, atAddr, map_add0, List.append_nil])
            have : ¬ z.2.1 = j := fun e => by rw [e, beq_self_eq_true] at h5; cases h5
            simp [pairOf, this]
        rintro _ m' _ ⟨rfl, rfl⟩
        have hrow' : Row (m.del bi) 57 2 q cq out.length (pcells out) := hrow.keep fun g hg _ => Mem.del_other _ (hrow.block hbi (by decide) hg)
        refine .alloc fun b4 => .env (by (try simp only [liE, letsOf, letU, snd, List.append_nil]); rfl) (.append (q := q) (cap := cq) (n := out.length) (qx := some ⟨b4, 0, none⟩) (kx := 1) (capx := 1) (news := [.int .i64 (pairOf i j z).1, .int .i64 (pairOf i j z).2]) el33 hrow' (fun g i u hu => ⟨b4, 0, rfl, ?_⟩) (by simp) (by simp [Value.oneCell']) (fun h => by cases h) (by simp [maxLen]; omega) (by omega) (fun q' cq' m3 hr' hk3 hq' => ?_))
        · rw [g.at (j := 4) rfl rfl, Nat.zero_add]; exact hu
        have hkeep : ∀ k, k ≠ bi → (∀ g, q = some ⟨g, 0, none⟩ → g ≠ k) → m k ≠ none → m3 k = m k := fun k h1 h2 h3 => by
          rw [hk3 k (fun ⟨o, ho⟩ => ?_) (by rw [Mem.del_other _ h1]; exact h3), Mem.del_other _ h1]
          exfalso
          rcases hrow.2 with ⟨e1, _⟩ | ⟨g, _, e1, _⟩
          · rw [e1] at ho; cases ho
          · rw [e1] at ho; cases ho
            exact h2 _ e1 rfl
        have htb : tb ≠ bi := fun e => (box_ne hbi hm) e.symm
        have htq : ∀ g, q = some ⟨g, 0, none⟩ → g ≠ tb := fun g hg e => by
          rcases hrow.2 with ⟨e1, _⟩ | ⟨g', cur, e1, e2, _⟩
          · rw [e1] at hg; cases hg
          · rw [e1] at hg; cases hg
            rw [e, hm] at e2
            simp only [Option.some.injEq, Obj.cells.injEq] at e2
            exact absurd e2.2.1 (by decide)
        have hmt3 := (hkeep tb htb htq (by rw [hm]; simp)).trans hm
        have hmj3 := (hkeep bj (Ne.symm hbij) (fun g hg => hrow.block hbj (by decide) hg) (by rw [hbj]; simp)).trans hbj
        refine .env (by (try simp only [liE, letsOf, letU, snd, List.append_nil]); rfl) (.storeU hcb rfl (fun hm3 => ?_))
        have hr3 : Row (m3.upd bi (box 3 (.int .i64 (z.1 : Int)))) 57 2 q' cq' (out.length + 1) (pcells (out ++ [pairOf i j z])) := by
          rw [pcells_append]
          refine hr'.keep fun g hg hg' => Mem.upd_other _ _ fun e => ?_
          rw [e, hm3] at hg'; exact hg' rfl
        have hbj4 : (m3.upd bi (box 3 (.int .i64 (z.1 : Int)))) bj = some (box 3 (.int .i64 (j : Int))) := by rw [Mem.upd_other _ _ (Ne.symm hbij)]; exact hmj3
        refine .store bj 0 #[.int .i64 (j : Int)] 3 rfl rfl hbj4 (by simp) (.leave (.inr ⟨by decide, rfl, q', cq', ?_, ?_, ?_, ?_, ?_⟩))
        · (simp only [evE, liE, letsOf, letU, snd, Sh.uss, Sh.us, atAddr, map_add0, List.append_nil])
        · rw [Mem.upd_other _ _ (fun e => (box_ne hbj hm) e.symm), Mem.upd_other _ _ htb]; exact hmt3
        · rw [Mem.upd_other _ _ hbij, Mem.upd_same]; rfl
        · rw [Mem.upd_same]; rfl
        · refine hr3.keep fun g hg hg' => Mem.upd_other _ _ (hr3.block hbj4 (by decide) hg)
      · rintro us m2 _ ⟨h0, _⟩
        rw [hz] at h0; simp at h0
      · rintro n us m2 _ _ ⟨rfl, q', cq', rfl, hE⟩
        refine .ite (fun _ => .again rfl ⟨q', cq', ?_, hE⟩) (fun _ => .again rfl ⟨q', cq', ?_, hE⟩) <;> (simp only [evE, liE, letsOf, letU, snd, Sh.uss, Sh.us, atAddr, map_add0, List.append_nil])
    rintro _ m2 _ ⟨q', cq', rfl, hm2, hbi2, hbj2, hrow2⟩
    refine .loadB (.int .i64 (z.1 : Int)) bi 3 rfl hbi2 (.loadB (.int .i64 (z.2.1 : Int)) bj 3 rfl hbj2 ?_)
    refine .env (by (try simp only [liE, letsOf, letU, snd, List.append_nil]); rfl) (.allocc fun bi' hi0 _ _ => .store bi' 0 #[.int .i64 0] 3 rfl rfl (by rw [Mem.upd_same]; rfl) (by simp) ?_)
    refine .allocc fun bj' hj0 _ _ => .store bj' 0 #[.int .i64 0] 3 rfl rfl (by rw [Mem.upd_same]; rfl) (by simp) ?_
    have hb' : bi' ≠ bj' := fun e => by rw [← e, Mem.upd_same] at hj0; cases hj0
    have keep : ∀ k, m2 k ≠ none → k ≠ bi' ∧ k ≠ bj' := fun k hk => by
      have h1 : k ≠ bi' := fun e => by rw [e, hi0] at hk; exact hk rfl
      refine ⟨h1, fun e => ?_⟩
      rw [← e, Mem.upd_other _ _ h1, Mem.upd_other _ _ h1] at hj0
      exact hk hj0
    refine .again rfl ⟨k, Nat.lt_succ_self k, z.1, z.2.1, bi', bj', q', cq', out ++ [pairOf i j z], ?_, z1, z2, hb', hnk, by rw [hal]; simp, ?_, ?_, ?_, ?_⟩
    · (simp only [evE, liE, letsOf, letU, snd, Sh.uss, Sh.us, atAddr, map_add0, List.append_nil]); simp
    · obtain ⟨k1, k2⟩ := keep tb (by rw [hm2]; simp)
      rw [Mem.upd_other _ _ k2, Mem.upd_other _ _ k2, Mem.upd_other _ _ k1, Mem.upd_other _ _ k1]; exact hm2
    · rw [Mem.upd_other _ _ hb', Mem.upd_other _ _ hb', Mem.upd_same]; rfl
    · rw [Mem.upd_same]; rfl
    · have hr2 : Row m2 57 2 q' cq' (out ++ [pairOf i j z]).length (pcells (out ++ [pairOf i j z])) := by simpa using hrow2
      refine hr2.keep fun g hg hg' => ?_
      obtain ⟨k1, k2⟩ := keep g hg'
      rw [Mem.upd_other _ _ k2, Mem.upd_other _ _ k2, Mem.upd_other _ _ k1, Mem.upd_other _ _ k1]
  · have h4' : ¬ (i < a.length ∨ j < b.length) := by
      have h4 : decide (i < a.length ∨ j < b.length) = false := h4
      simpa using h4
    rw [algA_done _ _ _ _ _ (by rw [hTa]; omega) (by rw [hTb']; omega), List.append_nil] at hal
    rw [hal]
    exact ⟨q, cq, rfl, hrow⟩
end Go.Proofs.YtedfogpnmpmggaaDoor
/- The small functions of the laws of chapter 17; 'works'. -/
namespace Go.Sy
open Go Go.RowKit
theorem Good.cells {c : Cx} {L : List Nat} {ρ : Env} {blks : List Blk} {m : Mem} (g : Good c L m) {j b o : Nat} {k : Blk} {xs : List Value} (h1 : L[j]? = some b) (h2 : blks[j]? = some k) (h : ((SV.dens L ρ k.cells).drop o).take xs.length = xs) : Cells (vw c L ρ blks m) (some ⟨b, o, none⟩) xs := fun i x hx => by
  refine ⟨b, o, rfl, ?_⟩
  rw [g.at h1 h2]
  rw [← h, List.getElem?_take] at hx
  split at hx
  · rw [List.getElem?_drop] at hx; exact hx
  · cases hx
theorem Mem.join_new {m mq : Mem} {b : Nat} (h : m b = none) : m.join mq b = mq b := by unfold Mem.join; rw [h]
theorem cells_of_mem {c : Cx} {L : List Nat} {ρ : Env} {blks : List Blk} {m : Mem} (g : Good c L m) {b : Nat} {xs : List Value} {e : TypeId} (h : m b = some (.cells xs.toArray e (0, 0))) : Cells (vw c L ρ blks m) (some ⟨b, 0, none⟩) xs := fun i x hx => ⟨b, 0, rfl, by rw [vw_mem g h, Nat.zero_add]; simpa using hx⟩
/-- Are two lists equal? By their parts. -/
theorem take_all {α : Type} [DecidableEq α] {a b : List α} (hl : a.length = b.length) (h : a.take a.length = b.take a.length) : a = b := by
  rw [List.take_of_length_le (Nat.le_refl _), List.take_of_length_le (by omega)] at h; exact h
end Go.Sy
namespace Go.Proofs.YtedfogpnmpmggaaDoor
open Go Go.Sy Go.RowKit
theorem c_p17 : Ret Tryd.prog n_law17_p [] (snd (2, 5)) := Fn.of S_law17_p mx [] rfl rfl fun _ _ => .alloc fun _ => .ret rfl rfl
theorem c_a17 : Ret Tryd.prog n_law17_a [] (snd (5, 2)) := Fn.of S_law17_a mx [] rfl rfl fun _ _ => .alloc fun _ => .ret rfl rfl
theorem c_b17 : Ret Tryd.prog n_law17_b [] (snd (3, 4)) := Fn.of S_law17_b mx [] rfl rfl fun _ _ => .alloc fun _ => .ret rfl rfl
theorem c_cost : FnM Tryd.prog n_law17_cost [] (fun _ => True) fun v mq _ => ∃ b e, v = costs (some ⟨b, 0, none⟩) 3 3 3 ∧ mq b = some (.cells ([2, 3, 4].map (Value.int .i64)).toArray e (0, 0)) :=
  FnM.of S_law17_cost mx [] rfl rfl fun c _ => .alloc fun b0 => .alloc fun b1 => .retL rfl fun g => ⟨b1, 2, rfl, by rw [blkMem_at (j := 1) (b := b1) g.nd rfl rfl]; rfl⟩
theorem pairs_eq {s t : Int × Int} : (s.1 = t.1 ∧ s.2 = t.2) ↔ s = t := ⟨fun h => Prod.ext h.1 h.2, fun h => by rw [h]; exact ⟨rfl, rfl⟩⟩
theorem take_succ_eq {α : Type} {a b : List α} {j : Nat} (ha : j < a.length) (hb : j < b.length) (h : a.take j = b.take j) : a.take (j + 1) = b.take (j + 1) ↔ a[j] = b[j] := by
  rw [List.take_succ_eq_append_getElem ha, List.take_succ_eq_append_getElem hb, h, List.append_right_inj]
  simp
theorem c_same (p q : Option Addr) (ca cb : Nat) (a b : List (Int × Int)) (hla : a.length < 2 ^ 62) : RetP Tryd.prog n_law17_same [slv p a.length ca, slv q b.length cb] (fun R => Cells R p (pcells a) ∧ Cells R q (pcells b)) (.bool (decide (a = b))) := by
  refine Fn.of S_law17_same mx [.p p, .i a.length, .i ca, .p q, .i b.length, .i cb] rfl rfl fun c hp => .chk (by ((try simp only [evE, liE, letsOf, letU, snd]); (try simp only [cmE])); omega) (.chk (by ((try simp only [evE, liE, letsOf, letU, snd]); (try simp only [cmE])); omega) (.ite (fun h1 => .ret rfl ?_) (fun h1 => ?_))) <;> ((try simp only [evE, liE, letsOf, letU, snd] at h1); (try simp only [cmE] at h1))
  · have : ¬ a = b := fun e => by rw [e] at h1; simp at h1
    ((try simp only [evE, liE, letsOf, letU, snd]); (try simp only [cmE])); simp [this]
  have hl : a.length = b.length := by omega
  refine .loop (fun n us _ => ∃ (r : Bool) (j : Nat), us = [.b r, .i j] ∧ n + j = a.length ∧ a.take j = b.take j) a.length ⟨false, 0, rfl, rfl, rfl⟩ ?_
  rintro n _ m _ ⟨r, j, rfl, hn, ht⟩
  refine .chk (by ((try simp only [evE, liE, letsOf, letU, snd]); (try simp only [cmE])); omega) (.ite (fun h2 => ?_) (fun h2 => .ret rfl ?_)) <;> ((try simp only [evE, liE, letsOf, letU, snd] at h2); (try simp only [cmE] at h2))
  · have ha : j < a.length := by omega
    have hb : j < b.length := by omega
    have hiff := take_succ_eq ha hb ht
    refine .loadP a j ha (fun g => hp.1.mono g.R) (.loadP b j hb (fun g => hp.2.mono g.R) (.ite (fun h3 => .ret rfl ?_) (fun h3 => .again rfl ⟨n - 1, by omega, r, j + 1, ?_, by omega, hiff.2 ?_⟩))) <;> ((try simp only [evE, liE, letsOf, letU, snd] at h3); (try simp only [cmE] at h3))
    · have : ¬ a = b := fun e => by subst e; simp at h3
      ((try simp only [evE, liE, letsOf, letU, snd]); (try simp only [cmE])); simp [this]
    · (simp only [evE, liE, letsOf, letU, snd, Sh.uss, Sh.us, atAddr, map_add0, List.append_nil]); rw [add_i64 j (by omega)]
    · exact pairs_eq.1 h3
  · have := take_all hl (by rw [show a.length = j by omega]; exact ht)
    ((try simp only [evE, liE, letsOf, letU, snd]); (try simp only [cmE])); simp [this]
theorem c_equal (p q : Option Addr) (ca cb : Nat) (a b : List Snd) (hla : a.length < 2 ^ 62) : RetP Tryd.prog n_law17_equal [slv p a.length ca, slv q b.length cb] (fun R => WordAt R p a ∧ WordAt R q b) (.bool (decide (a = b))) := by
  refine Fn.of S_law17_equal mx [.p p, .i a.length, .i ca, .p q, .i b.length, .i cb] rfl rfl fun c hp => .chk (by ((try simp only [evE, liE, letsOf, letU, snd]); (try simp only [cmE])); omega) (.chk (by ((try simp only [evE, liE, letsOf, letU, snd]); (try simp only [cmE])); omega) (.ite (fun h1 => .ret rfl ?_) (fun h1 => ?_))) <;> ((try simp only [evE, liE, letsOf, letU, snd] at h1); (try simp only [cmE] at h1))
  · have : ¬ a = b := fun e => by rw [e] at h1; simp at h1
    ((try simp only [evE, liE, letsOf, letU, snd]); (try simp only [cmE])); simp [this]
  have hl : a.length = b.length := by omega
  refine .loop (fun n us _ => ∃ (r : Bool) (j : Nat), us = [.b r, .i j] ∧ n + j = a.length ∧ a.take j = b.take j) a.length ⟨false, 0, rfl, rfl, rfl⟩ ?_
  rintro n _ m _ ⟨r, j, rfl, hn, ht⟩
  refine .chk (by ((try simp only [evE, liE, letsOf, letU, snd]); (try simp only [cmE])); omega) (.ite (fun h2 => ?_) (fun h2 => .ret rfl ?_)) <;> ((try simp only [evE, liE, letsOf, letU, snd] at h2); (try simp only [cmE] at h2))
  · have ha : j < a.length := by omega
    have hb : j < b.length := by omega
    have hiff := take_succ_eq ha hb ht
    refine .loadW a j ha (fun g => hp.1.mono g.R) (.loadW b j hb (fun g => hp.2.mono g.R) (.ite (fun h3 => .ret rfl ?_) (fun h3 => .again rfl ⟨n - 1, by omega, r, j + 1, ?_, by omega, hiff.2 ?_⟩))) <;> ((try simp only [evE, liE, letsOf, letU, snd] at h3); (try simp only [cmE] at h3))
    · have : ¬ a = b := fun e => by subst e; simp at h3
      ((try simp only [evE, liE, letsOf, letU, snd]); (try simp only [cmE])); simp [this]
    · (simp only [evE, liE, letsOf, letU, snd, Sh.uss, Sh.us, atAddr, map_add0, List.append_nil]); rw [add_i64 j (by omega)]
    · exact snd_eq.1 h3
  · have := take_all hl (by rw [show a.length = j by omega]; exact ht)
    ((try simp only [evE, liE, letsOf, letU, snd]); (try simp only [cmE])); simp [this]
theorem c_light (A B : WD) (pc : Option Addr) (cc n : Nat) (gap : Int) : Ret Tryd.prog n_law17_light [.agg #[A.v, B.v, slv pc n cc, .int .i64 gap]] (.bool (decide (A.w.length ≤ 50 ∧ B.w.length ≤ 50 ∧ n ≤ 50))) := by
  refine Fn.of S_law17_light mx [.p A.p, .i A.w.length, .i A.cap, .p B.p, .i B.w.length, .i B.cap, .p pc, .i n, .i cc, .i gap] rfl rfl fun c _ => .alloc fun _ => .chk (by ((try simp only [evE, liE, letsOf, letU, snd]); (try simp only [cmE])); omega) (.ite (fun h1 => .chk (by ((try simp only [evE, liE, letsOf, letU, snd]); (try simp only [cmE])); omega) (.ite (fun h2 => .chk (by ((try simp only [evE, liE, letsOf, letU, snd]); (try simp only [cmE])); omega) (.ret rfl ?_)) (fun h2 => .ret rfl ?_))) (fun h1 => .ret rfl ?_)) <;> ((try simp only [evE, liE, letsOf, letU, snd] at h1); (try simp only [cmE] at h1))
  · ((try simp only [evE, liE, letsOf, letU, snd] at h2); (try simp only [cmE] at h2))
    ((try simp only [evE, liE, letsOf, letU, snd]); (try simp only [cmE])); rw [show ((decide ((n : Int) ≤ 50)) : Bool) = decide (n ≤ 50) by rw [Bool.eq_iff_iff]; simp; omega]
    simp [show A.w.length ≤ 50 by omega, show B.w.length ≤ 50 by omega]
  · ((try simp only [evE, liE, letsOf, letU, snd] at h2); (try simp only [cmE] at h2))
    ((try simp only [evE, liE, letsOf, letU, snd]); (try simp only [cmE])); simp [show ¬ B.w.length ≤ 50 by omega]
  · ((try simp only [evE, liE, letsOf, letU, snd]); (try simp only [cmE])); simp [show ¬ A.w.length ≤ 50 by omega]
theorem wok_pa : Wok [(2, 5), (5, 2)] := by simp [Wok, Sok]
theorem wok_ba : Wok [(3, 4), (5, 2)] := by simp [Wok, Sok]
theorem wok_a : Wok [(5, 2)] := by simp [Wok, Sok]
theorem wok_p : Wok [(2, 5)] := by simp [Wok, Sok]
theorem wok_pap : Wok [(2, 5), (5, 2), (2, 5)] := by simp [Wok, Sok]
theorem wok_app : Wok [(5, 2), (2, 5), (2, 5)] := by simp [Wok, Sok]
theorem x_dist : distE [2, 3, 4] 3 [(2, 5), (5, 2)] [(3, 4), (5, 2)] = (2, 0) := by decide +kernel
theorem x_align : alignE [2, 3, 4] 3 [(2, 5), (5, 2)] [(5, 2)] = [(0, -1), (1, 0)] := by decide +kernel
theorem x_ways : waysE [2, 3, 4] 3 [(2, 5)] [(5, 2)] = (2, 0) := by decide +kernel
theorem x_score : scoreE [2, 3, 4] 3 [(2, 5)] [(5, 2)] [(0, 0)] = (9, 0) := by decide +kernel
theorem x_long : longE [(2, 5), (5, 2), (2, 5)] [(5, 2), (2, 5), (2, 5)] = (2, 0) := by decide +kernel
theorem x_near : nearE [2, 3, 4] 3 [(2, 5), (5, 2)] [[(3, 4), (5, 2)], [(2, 5), (5, 2)], [(2, 5), (5, 2)]] = (1, 0, 0) := by decide +kernel
theorem x_ratio : ratioE [2, 3, 4] 3 [(2, 5), (5, 2)] [(3, 4), (5, 2)] = ((1, 6), 0) := by decide +kernel
theorem x_check : checkE [2, 3, 4] 3 [[(2, 5), (5, 2)], [(5, 2)]] = 0 := by decide +kernel
set_option maxHeartbeats 2000000 in
theorem c_works17 : RetP Tryd.prog n_law17_works [] TabOk (.bool true) := by
  refine Fn.of S_law17_works mx [] rfl rfl fun c hp => .callV c_p17 (fun _ => trivial) (.callV c_a17 (fun _ => trivial) (.alloc fun b0 => .callV c_b17 (fun _ => trivial) (.callV c_a17 (fun _ => trivial) (.alloc fun b1 => ?_))))
  -- edit.Dist
  refine .env (by (try simp only [liE, letsOf, letU, snd, List.append_nil]); rfl) (.callM c_cost rfl rfl (fun _ => trivial) ?_)
  rintro v mq hfr ⟨t, e, rfl, hm⟩
  refine ⟨[.p (some ⟨t, 0, none⟩), .i 3, .i 3, .i 3], uOk_of rfl, rfl, ?_⟩
  replace hm := (Mem.join_new (hfr t (by rw [hm]; simp)).1).trans hm
  generalize Mem.join _ mq = m at hm ⊢
  have k1 := c_editDist ⟨some ⟨b0, 0, none⟩, 2, [(2, 5), (5, 2)]⟩ ⟨some ⟨b1, 0, none⟩, 2, [(3, 4), (5, 2)]⟩ (some ⟨t, 0, none⟩) 3 [2, 3, 4] 3 wok_pa wok_ba
  simp only [x_dist] at k1
  refine .callV k1 (fun g => ⟨g.cells (j := 0) rfl rfl rfl, g.cells (j := 1) rfl rfl rfl, cells_of_mem g hm, hp.mono g.R⟩) ?_
  clear k1 hm hfr
  -- edit.Align
  refine .env (by (try simp only [liE, letsOf, letU, snd, List.append_nil]); rfl) (.callM c_cost rfl rfl (fun _ => trivial) ?_)
  rintro v mq2 hfr ⟨t, e, rfl, hm⟩
  refine ⟨[.p (some ⟨t, 0, none⟩), .i 3, .i 3, .i 3], uOk_of rfl, rfl, ?_⟩
  replace hm := (Mem.join_new (hfr t (by rw [hm]; simp)).1).trans hm
  generalize Mem.join _ mq2 = m at hm ⊢
  have k1 := c_editAlign ⟨some ⟨b0, 0, none⟩, 2, [(2, 5), (5, 2)]⟩ ⟨some ⟨b0, 2, none⟩, 1, [(5, 2)]⟩ (some ⟨t, 0, none⟩) 3 [2, 3, 4] 3 wok_pa wok_a
  simp only [x_align, x_check] at k1
  refine .callM k1 rfl rfl (fun g => ⟨g.cells (j := 0) rfl rfl rfl, g.cells (j := 0) rfl rfl rfl, cells_of_mem g hm, hp.mono g.R⟩) ?_
  clear k1 hfr
  rintro v mq3 hfr ⟨ql, cl, rfl, hrow⟩
  refine ⟨[.p ql, .i 2, .i cl, .i 0], uOk_of rfl, rfl, ?_⟩
  replace hrow : Row (m.join mq3) 57 2 ql cl 2 (pcells [(0, -1), (1, 0)]) := hrow.keep fun g hg hg' => Mem.join_new (hfr g hg').1
  generalize Mem.join _ mq3 = m at hrow ⊢
  clear hm hfr
  -- edit.Ways
  refine .env (by (try simp only [liE, letsOf, letU, snd, List.append_nil]); rfl) (.callM c_cost rfl rfl (fun _ => trivial) ?_)
  rintro v mq4 hfr ⟨t, e, rfl, hm⟩
  refine ⟨[.p (some ⟨t, 0, none⟩), .i 3, .i 3, .i 3], uOk_of rfl, rfl, ?_⟩
  replace hm := (Mem.join_new (hfr t (by rw [hm]; simp)).1).trans hm
  replace hrow := hrow.keep (m' := Mem.join m mq4) fun g hg hg' => by cases h : m g with | none => exact absurd h hg' | some o => exact Mem.join_at h
  generalize Mem.join _ mq4 = m at hm hrow ⊢
  have k1 := c_editWays ⟨some ⟨b0, 0, none⟩, 2, [(2, 5)]⟩ ⟨some ⟨b0, 2, none⟩, 1, [(5, 2)]⟩ (some ⟨t, 0, none⟩) 3 [2, 3, 4] 3 wok_p wok_a
  simp only [x_ways] at k1
  refine .callV k1 (fun g => ⟨g.cells (j := 0) rfl rfl rfl, g.cells (j := 0) rfl rfl rfl, cells_of_mem g hm, hp.mono g.R⟩) ?_
  clear k1 hfr hm
  -- edit.Score
  refine .env (by (try simp only [liE, letsOf, letU, snd, List.append_nil]); rfl) (.callM c_cost rfl rfl (fun _ => trivial) ?_)
  rintro v mq5 hfr ⟨t, e, rfl, hm⟩
  refine ⟨[.p (some ⟨t, 0, none⟩), .i 3, .i 3, .i 3], uOk_of rfl, rfl, ?_⟩
  replace hm := (Mem.join_new (hfr t (by rw [hm]; simp)).1).trans hm
  replace hrow := hrow.keep (m' := Mem.join m mq5) fun g hg hg' => by cases h : m g with | none => exact absurd h hg' | some o => exact Mem.join_at h
  generalize Mem.join _ mq5 = m at hm hrow ⊢
  refine .alloc fun b2 => ?_
  have k1 := c_editScore ⟨some ⟨b0, 0, none⟩, 2, [(2, 5)]⟩ ⟨some ⟨b0, 2, none⟩, 1, [(5, 2)]⟩ (some ⟨b2, 0, none⟩) 1 [(0, 0)] (some ⟨t, 0, none⟩) 3 [2, 3, 4] 3 wok_p wok_a (by decide)
  simp only [x_score] at k1
  refine .callV k1 (fun g => ⟨g.cells (j := 0) rfl rfl rfl, g.cells (j := 0) rfl rfl rfl, g.cells (j := 2) rfl rfl rfl, cells_of_mem g hm, hp.mono g.R⟩) ?_
  clear k1 hfr hm
  -- edit.Longest
  refine .env (by (try simp only [liE, letsOf, letU, snd, List.append_nil]); rfl) (.callV c_p17 (fun _ => trivial) (.callV c_a17 (fun _ => trivial) (.callV c_p17 (fun _ => trivial) (.alloc fun b3 => .callV c_a17 (fun _ => trivial) (.callV c_p17 (fun _ => trivial) (.callV c_p17 (fun _ => trivial) (.alloc fun b4 => ?_)))))))
  have k1 := c_longest (some ⟨b3, 0, none⟩) (some ⟨b4, 0, none⟩) 3 3 [(2, 5), (5, 2), (2, 5)] [(5, 2), (2, 5), (2, 5)] wok_pap wok_app
  simp only [x_long] at k1
  refine .env (by (try simp only [liE, letsOf, letU, snd, List.append_nil]); rfl) (.callV k1 (fun g => ⟨g.cells (j := 3) rfl rfl rfl, g.cells (j := 4) rfl rfl rfl⟩) ?_)
  clear k1
  -- edit.Near
  refine .alloc fun b5 => .env (by (try simp only [liE, letsOf, letU, snd, List.append_nil]); rfl) (.callM c_cost rfl rfl (fun _ => trivial) ?_)
  rintro v mq6 hfr ⟨t, e, rfl, hm⟩
  refine ⟨[.p (some ⟨t, 0, none⟩), .i 3, .i 3, .i 3], uOk_of rfl, rfl, ?_⟩
  replace hm := (Mem.join_new (hfr t (by rw [hm]; simp)).1).trans hm
  replace hrow := hrow.keep (m' := Mem.join m mq6) fun g hg hg' => by cases h : m g with | none => exact absurd h hg' | some o => exact Mem.join_at h
  generalize Mem.join _ mq6 = m at hm hrow ⊢
  have k1 := c_editNear ⟨some ⟨b0, 0, none⟩, 2, [(2, 5), (5, 2)]⟩ (some ⟨b5, 0, none⟩) 3 [⟨some ⟨b1, 0, none⟩, 2, [(3, 4), (5, 2)]⟩, ⟨some ⟨b0, 0, none⟩, 2, [(2, 5), (5, 2)]⟩, ⟨some ⟨b0, 0, none⟩, 2, [(2, 5), (5, 2)]⟩] (some ⟨t, 0, none⟩) 3 [2, 3, 4] 3 wok_pa (by simp [wok_pa, wok_ba]) (by simp)
  simp only [List.map_cons, List.map_nil, x_near] at k1
  refine .env (by (try simp only [liE, letsOf, letU, snd, List.append_nil]); rfl) (.callV k1 (fun g => ⟨g.cells (j := 0) rfl rfl rfl, ⟨g.cells (j := 5) rfl rfl rfl, ?_⟩, cells_of_mem g hm, hp.mono g.R⟩) ?_)
  · simp only [List.mem_cons, List.not_mem_nil, or_false]
    rintro x (rfl | rfl | rfl)
    · exact g.cells (j := 1) rfl rfl rfl
    · exact g.cells (j := 0) rfl rfl rfl
    · exact g.cells (j := 0) rfl rfl rfl
  clear k1 hfr hm
  -- edit.Ratio
  refine .env (by (try simp only [liE, letsOf, letU, snd, List.append_nil]); rfl) (.callM c_cost rfl rfl (fun _ => trivial) ?_)
  rintro v mq7 hfr ⟨t, e, rfl, hm⟩
  refine ⟨[.p (some ⟨t, 0, none⟩), .i 3, .i 3, .i 3], uOk_of rfl, rfl, ?_⟩
  replace hm := (Mem.join_new (hfr t (by rw [hm]; simp)).1).trans hm
  replace hrow := hrow.keep (m' := Mem.join m mq7) fun g hg hg' => by cases h : m g with | none => exact absurd h hg' | some o => exact Mem.join_at h
  generalize Mem.join _ mq7 = m at hm hrow ⊢
  have k1 := c_editRatio ⟨some ⟨b0, 0, none⟩, 2, [(2, 5), (5, 2)]⟩ ⟨some ⟨b1, 0, none⟩, 2, [(3, 4), (5, 2)]⟩ (some ⟨t, 0, none⟩) 3 [2, 3, 4] 3 wok_pa wok_ba
  simp only [x_ratio] at k1
  refine .env (by (try simp only [liE, letsOf, letU, snd, List.append_nil]); rfl) (.callV k1 (fun g => ⟨g.cells (j := 0) rfl rfl rfl, g.cells (j := 1) rfl rfl rfl, cells_of_mem g hm, hp.mono g.R⟩) ?_)
  clear k1 hfr hm
  refine .alloc fun b6 => .env (by (try simp only [liE, letsOf, letU, snd, List.append_nil]); rfl) (.yes rfl (.alloc fun b7 => ?_))
  have k1 := c_same ql (some ⟨b7, 0, none⟩) cl 2 [(0, -1), (1, 0)] [(0, -1), (1, 0)] (by decide)
  refine .callV k1 (fun g => ⟨hrow.reads g, g.cells (j := 7) rfl rfl rfl⟩) (.ret rfl rfl)
end Go.Proofs.YtedfogpnmpmggaaDoor
