/- Chapter 19: forms in memory; checks of forms and limits; fractions compared. -/
import Derived.Test.YthabfpagilbplaaDoorBc
import Derived.Test.YthabfpagilbplaaDoorPt
import Derived.Test.YthabfpagilbplaaDoorTe
import Derived.Test.YthabfpagilbplaaDoorTf
import Derived.Test.YthabfpagilbplaaDoorNa
import Derived.Lib.Mul64
import Derived.WalkSpells
set_option linter.unusedSimpArgs false
set_option linter.unusedVariables false
/- Chapter 19: forms in memory; checks of forms and limits; fractions compared. -/
namespace Go.Sy
open Go Go.RowKit
structure WD.ok (x : WD) : Prop where
  le : x.w.length ≤ x.cap
  nil : x.p = none → x.cap = 0
theorem sl_at (ρ : Env) (L : List Nat) (q : Option Addr) (n cap : Nat) (us : List U) : (Sh.sl.fresh ρ.length).1.den L (ρ ++ (.p q :: .i n :: .i cap :: us)) = slv q n cap := by
  have e0 := getElem_env ρ (.p q :: .i n :: .i cap :: us) 0
  have e1 := getElem_env ρ (.p q :: .i n :: .i cap :: us) 1
  have e2 := getElem_env ρ (.p q :: .i n :: .i cap :: us) 2
  rw [Nat.add_zero] at e0
  simp only [Sh.fresh, SV.den, IT.eval, atAddr, Env.ptr, Env.int]
  rw [e0, e1, e2]
  simp only [List.getElem?_cons_zero, List.getElem?_cons_succ, slv]
  cases q <;> simp [addr_zero]
structure FD where
  has : Bool
  w : WD
def fcells (l : List FD) : List Value := l.flatMap fun x => [.bool x.has, x.w.v]
def FormsAt (R : Mv) (q : Option Addr) (l : List FD) : Prop := Cells R q (fcells l) ∧ ∀ x ∈ l, WordAt R x.w.p x.w.w
theorem FormsAt.mono {R S : Mv} {q : Option Addr} {l : List FD} (h : FormsAt R q l) (hle : R.le S) : FormsAt S q l := ⟨h.1.mono hle, fun x hx => (h.2 x hx).mono hle⟩
theorem fcells_len (l : List FD) : (fcells l).length = l.length * 2 := by
  induction l with
  | nil => rfl
  | cons s w ih => simp only [fcells, List.flatMap_cons, List.length_append, List.length_cons] at *; rw [ih]; simp; omega
theorem fcells_at (w : List FD) (j : Nat) (h : j < w.length) : (fcells w)[j * 2]? = some (.bool w[j].has) ∧ (fcells w)[j * 2 + 1]? = some w[j].w.v := by
  induction w generalizing j with
  | nil => simp at h
  | cons s w ih =>
    cases j with
    | zero => exact ⟨rfl, rfl⟩
    | succ j =>
      have := ih j (by simpa using h)
      simp only [fcells, List.flatMap_cons, List.cons_append, List.nil_append] at *
      rw [show (j + 1) * 2 = j * 2 + 2 by omega, show j * 2 + 2 + 1 = (j * 2 + 1) + 2 by omega]
      simpa using this
section
variable {P : Program} {c : Cx} {L : List Nat} {ρ : Env} {blks : List Blk} {m : Mem} {R : Value → HW → Prop} {Dn : Nat → List U → HW → Prop} {A : List (List U → HW → Prop)}
theorem DenM.loadSx {i : Nat} {off : IT} {k : Tree} (xs : List Value) (j : Nat) (q : Option Addr) (kn cap : Nat) (ho : off.eval ρ = (j : Int)) (hx : xs[j]? = some (slv q kn cap)) (hw : Good c L m → Cells (vw c L ρ blks m) (ρ.ptr i) xs) (hk : DenM P R Dn k L (ρ ++ [.p q, .i kn, .i cap]) c m A) :
    DenM P R Dn (.load i off [.sl] blks k) L ρ c m A := by
  refine .loadC [.p q, .i kn, .i cap] (ρ.ptr i) xs j rfl ho rfl hw (List.getElem?_eq_some_iff.1 hx).1 (fun q' v hv => ?_) hk
  match q', hv with
  | 0, hv =>
    simp only [Sh.freshs, SV.dens] at hv
    rw [slv_fresh] at hv
    simp only [List.getElem?_cons_zero, Option.some.injEq] at hv
    rw [← hv]; exact hx
  | q' + 1, hv => simp [Sh.freshs, SV.dens] at hv
theorem form_at (ρ : Env) (L : List Nat) (x : FD) : SV.dens L (ρ ++ [.b x.has, .p x.w.p, .i x.w.w.length, .i x.w.cap]) (Sh.freshs [.bool, .sl] ρ.length).1 = [.bool x.has, x.w.v] := by
  have e1 := getElem_env ρ [.b x.has, .p x.w.p, .i x.w.w.length, .i x.w.cap] 0
  rw [Nat.add_zero] at e1
  have e2 := sl_at (ρ ++ [.b x.has]) L x.w.p x.w.w.length x.w.cap []
  rw [List.append_assoc] at e2
  simp only [List.cons_append, List.nil_append, List.length_append, List.length_cons, List.length_nil] at e2
  simp only [Sh.freshs, Sh.fresh, SV.dens, SV.den, BT.eval, Env.bool] at e1 e2 ⊢
  rw [e1, e2]; rfl
theorem DenM.loadFD {i : Nat} {I len : IT} {k : Tree} (l : List FD) (j : Nat) (hj : j < l.length) (hw : Good c L m → Cells (vw c L ρ blks m) (ρ.ptr i) (fcells l)) (hk : DenM P R Dn k L (ρ ++ [.b l[j].has, .p l[j].w.p, .i l[j].w.w.length, .i l[j].w.cap]) c m A) (hI : I.eval ρ = (j : Int) := by rfl) (hn : len.eval ρ = (l.length : Int) := by rfl) :
    DenM P R Dn (.chk (.pick (.cmp .geq I (.lit 0)) (.pick (.cmp .lss I len) (.some i) (.lit false)) (.lit false)) (.load i (.off I 2 (.lit 0)) [.bool, .sl] blks k)) L ρ c m A := by
  have h := fcells_at l j hj
  refine .elem [.b l[j].has, .p l[j].w.p, .i l[j].w.w.length, .i l[j].w.cap] (fcells l) j l.length hI hn hj rfl hw (by rw [fcells_len]; omega) (fun q v hv => ?_) hk
  rw [form_at] at hv
  match q, hv with
  | 0, hv => simp at hv; rw [← hv]; exact h.1
  | 1, hv => simp at hv; rw [← hv]; exact h.2
  | q + 2, hv => simp at hv
end
def blankF (f : FD) : Bool := !f.has && decide (0 < f.w.w.length)
theorem any_false {α : Type} {p : α → Bool} {l : List α} (h : ∀ i (hi : i < l.length), p l[i] = false) : l.any p = false := by
  rw [List.any_eq_false]
  intro x hx
  obtain ⟨i, hi, rfl⟩ := List.getElem_of_mem hx
  simp [h i hi]
theorem any_true {α : Type} {p : α → Bool} {l : List α} {i : Nat} (hi : i < l.length) (h : p l[i] = true) : l.any p = true := List.any_eq_true.2 ⟨l[i], List.getElem_mem hi, h⟩
theorem findIdx?_at {α : Type} {p : α → Bool} {l : List α} {j : Nat} (hj : j < l.length) (h : p l[j] = true) (hb : ∀ i (hi : i < l.length), i < j → p l[i] = false) : l.findIdx? p = some j := by
  rw [List.findIdx?_eq_some_iff_getElem]
  exact ⟨hj, h, fun i hi => by simp [hb i (by omega) hi]⟩
theorem findIdx?_none {α : Type} {p : α → Bool} {l : List α} (hb : ∀ i (hi : i < l.length), p l[i] = false) : l.findIdx? p = none := by
  rw [List.findIdx?_eq_none_iff]
  intro x hx
  obtain ⟨i, hi, rfl⟩ := List.getElem_of_mem hx
  exact hb i hi
theorem u64_wrap {n : Nat} (h : n < 2 ^ 64) : IntKind.u64.wrap (n : Int) = n := by
  unfold IntKind.wrap
  simp [IntKind.signed, IntKind.bits]
  omega
theorem ar_shr32 (a : Nat) : ar .shr .u64 (a : Int) 32 = ((a / 4294967296 : Nat) : Int) := by
  show Int.fdiv (a : Int) (2 ^ (min (32 : Int).toNat IntKind.u64.bits)) = _
  rw [show min (32 : Int).toNat IntKind.u64.bits = 32 from rfl, Int.fdiv_eq_ediv_of_nonneg _ (Int.pow_nonneg (by decide))]
  norm_cast
theorem ar_low32 (a : Nat) (ha : a < 2 ^ 64) : ar .and .u64 (a : Int) 4294967295 = ((a % 4294967296 : Nat) : Int) := by
  show IntKind.u64.wrap ((BitVec.ofInt 64 (a : Int) &&& BitVec.ofInt 64 ((4294967295 : Nat) : Int)).toNat : Int) = _
  have : (BitVec.ofInt 64 (a : Int) &&& BitVec.ofInt 64 ((4294967295 : Nat) : Int)).toNat = a % 4294967296 := by
    rw [BitVec.ofInt_natCast, BitVec.ofInt_natCast, BitVec.toNat_and, BitVec.toNat_ofNat, BitVec.toNat_ofNat, Nat.mod_eq_of_lt ha, Nat.mod_eq_of_lt (by decide), show (4294967295 : Nat) = 2 ^ 32 - 1 by decide, Nat.and_two_pow_sub_one_eq_mod]
  rw [this, u64_wrap (by omega)]
theorem mulU {a b : Nat} (h : a * b < 2 ^ 64) : ar .mul .u64 (a : Int) (b : Int) = ((a * b : Nat) : Int) := by
  show IntKind.u64.wrap _ = _
  rw [show (a : Int) * (b : Int) = ((a * b : Nat) : Int) by norm_cast, u64_wrap h]
theorem addU {a b : Nat} (h : a + b < 2 ^ 64) : ar .add .u64 (a : Int) (b : Int) = ((a + b : Nat) : Int) := by
  show IntKind.u64.wrap _ = _
  rw [show (a : Int) + (b : Int) = ((a + b : Nat) : Int) by norm_cast, u64_wrap h]
theorem mulU_mod (a b : Nat) : ar .mul .u64 (a : Int) (b : Int) = ((a * b % 2 ^ 64 : Nat) : Int) := by
  show IntKind.u64.wrap _ = _
  rw [show (a : Int) * (b : Int) = ((a * b : Nat) : Int) by norm_cast]
  unfold IntKind.wrap
  simp [IntKind.signed, IntKind.bits]
theorem conv_u64 {a : Nat} (h : a < 2 ^ 64) : IntKind.u64.wrap (a : Int) = (a : Int) := u64_wrap h
def limB (N D : Int) : Bool := decide (D > 0) && decide (N ≥ 0)
def check19 (ws : List Int) (gap : Int) (l : List FD) (N D : Int) : Int := if checkC ws gap ≠ 0 then 2 else if l.length > 16 then 12 else if l.any blankF = true then 2 else if checkL (l.map (·.w.w)) ≠ 0 then checkL (l.map (·.w.w)) else if limB N D = true then 0 else 2
theorem checkL_cons {w : List Snd} {l : List (List Snd)} : checkL (w :: l) = if checkW w ≠ 0 then checkW w else checkL l := rfl
theorem checkL_at {l : List FD} {j : Nat} (hj : j < l.length) (h : ∀ i (hi : i < l.length), i < j → checkW l[i].w.w = 0) : checkL (l.map (·.w.w)) = checkL ((l.drop j).map (·.w.w)) := by
  induction l generalizing j with
  | nil => simp at hj
  | cons x l ih =>
    cases j with
    | zero => rfl
    | succ j =>
      have h0 := h 0 (by simp) (by omega)
      simp only [List.getElem_cons_zero] at h0
      simp only [List.map_cons, checkL, List.drop_succ_cons]
      rw [if_neg (by simp [h0])]
      exact ih (by simpa using hj) fun i hi hij => h (i + 1) (Nat.succ_lt_succ hi) (by omega)
theorem checkL_none {l : List FD} (h : ∀ i (hi : i < l.length), checkW l[i].w.w = 0) : checkL (l.map (·.w.w)) = 0 := by
  induction l with
  | nil => rfl
  | cons x l ih =>
    have h0 := h 0 (by simp)
    simp only [List.getElem_cons_zero] at h0
    simp only [List.map_cons, checkL]
    rw [if_neg (by simp [h0])]
    exact ih fun i hi => h (i + 1) (Nat.succ_lt_succ hi)
end Go.Sy
namespace Go.Proofs.YthabfpagilbplaaDoor
open Go Go.Sy Go.RowKit
theorem c_indexF (p : Option Addr) (cp : Nat) (t : List FD) (fv : Value) (hfv : fv.oneCell' = true) (f : FD → Bool) (hl : t.length < 2 ^ 63) (hf : ∀ x ∈ t, FnV Tryd.prog fv [.agg #[.bool x.has, x.w.v]] (fun _ => True) fun v _ _ => v = .bool (f x)) :
    RetP Tryd.prog n_slices_ContainsFunc___api_Form_api_Form_ [slv p t.length cp, fv] (fun R => Cells R p (fcells t)) (.bool (t.any f)) := by
  have key : RetP Tryd.prog n_slices_IndexFunc___api_Form_api_Form_ [slv p t.length cp, fv] (fun R => Cells R p (fcells t)) (.int .i64 (match t.findIdx? f with | some i => (i : Int) | none => -1)) := by
    refine Fn.of S_slices_IndexFunc___api_Form_api_Form_ mx [.p p, .i t.length, .i cp, .v fv] (by simp [Sh.eats, Sh.eat, eatV, eatP, eatS, hfv]) rfl fun c hp => .chk (by ((try simp only [evE, liE, lO, lU, snd]); (try simp only [cmE])); omega) ?_
    refine .loop (fun n us _ => ∃ (e : Int) (j : Nat), us = [.i e, .i j] ∧ n + j = t.length ∧ ∀ i (hi : i < t.length), i < j → f t[i] = false) t.length ⟨0, 0, rfl, rfl, fun i hi h => by omega⟩ ?_
    rintro n _ m _ ⟨e, j, rfl, hn, hb⟩
    refine .env (by (try simp only [liE, lO, lU, snd, aN]); rfl) (.ite (fun h2 => ?_) (fun h2 => .ret rfl ?_)) <;> ((try simp only [evE, liE, lO, lU, snd] at h2); (try simp only [cmE] at h2))
    · have hj : j < t.length := by omega
      refine .loadFD t j hj (fun g => hp.mono g.R) (.env (by (try simp only [liE, lO, lU, snd, aN]); rfl) (.callvR (hf _ (List.getElem_mem hj)) (fun g => trivial) (fun m' _ => .env (by (try simp only [liE, lO, lU, snd, aN]); rfl) (.ite (fun h3 => .ret rfl ?_) (fun h3 => .again rfl ⟨n - 1, by omega, e, j + 1, ?_, by omega, ?_⟩)))))
      · replace h3 : f t[j] = true := h3
        rw [findIdx?_at hj h3 hb]; rfl
      · (simp only [evE, liE, lO, lU, snd, Sh.uss, Sh.us, atAddr, map_add0, List.append_nil]); rw [add_i64 j (by omega)]
      · replace h3 : f t[j] = false := h3
        intro i hi hij
        rcases Nat.lt_or_ge i j with h | h
        · exact hb i hi h
        · have : i = j := by omega
          subst this; exact h3
    · rw [findIdx?_none fun i hi => hb i hi (by omega)]; rfl
  refine Fn.of S_slices_ContainsFunc___api_Form_api_Form_ mx [.p p, .i t.length, .i cp, .v fv] (by simp [Sh.eats, Sh.eat, eatV, eatP, eatS, hfv]) rfl fun c hp => .callV key (fun g => hp.mono g.R) (.env (by (try simp only [liE, lO, lU, snd, aN]); rfl) (.ret rfl ?_))
  cases h : t.findIdx? f with
  | none =>
    rw [List.findIdx?_eq_none_iff] at h
    have : t.any f = false := List.any_eq_false.2 fun x hx => by simp [h x hx]
    rw [this]; rfl
  | some i =>
    obtain ⟨hi, h1, _⟩ := List.findIdx?_eq_some_iff_getElem.1 h
    rw [any_true hi h1]
    show Value.bool (cm .geq (i : Int) 0) = _
    simp [cm]
theorem c_hidden1 (x : FD) : FnM Tryd.prog n_cognates_hidden_1 [.agg #[.bool x.has, x.w.v]] (fun _ => True) fun v _ _ => v = .bool (blankF x) := by
  refine FnM.of S_cognates_hidden_1 mx [.b x.has, .p x.w.p, .i x.w.w.length, .i x.w.cap] rfl rfl fun c _ => .alloc fun b0 => .ite (fun h1 => .chk (by ((try simp only [evE, liE, lO, lU, snd]); (try simp only [cmE])); omega) (.ret rfl ?_)) (fun h1 => .ret rfl ?_)
  · replace h1 : (!x.has) = true := h1
    show Value.bool (cm .gtr (x.w.w.length : Int) 0) = _
    simp only [cm, blankF, h1, Bool.true_and]
    congr 1
    exact decide_eq_decide.2 (by omega)
  · replace h1 : (!x.has) = false := h1
    show Value.bool false = _
    simp only [blankF, h1, Bool.false_and]
theorem c_hidden (p : Option Addr) (cp : Nat) (l : List FD) (hl : l.length < 2 ^ 63) : RetP Tryd.prog n_cognates_hidden [slv p l.length cp] (fun R => Cells R p (fcells l)) (.bool (l.any blankF)) := by
  refine Fn.of S_cognates_hidden mx [.p p, .i l.length, .i cp] rfl rfl fun c hp => .callV (c_indexF p cp l (.func (.func n_cognates_hidden_1) #[] #[]) rfl blankF hl fun x _ => .of0 (by kernel_rfl) (c_hidden1 x)) (fun g => hp.mono g.R) (.ret rfl rfl)
theorem c_words19 (p : Option Addr) (cp : Nat) (l : List FD) (hl : l.length < 2 ^ 63) (hok : ∀ f ∈ l, Wok f.w.w) : RetP Tryd.prog n_cognates_words [slv p l.length cp] (fun R => FormsAt R p l) (.int .i64 (checkL (l.map (·.w.w)))) := by
  refine Fn.of S_cognates_words mx [.p p, .i l.length, .i cp] rfl rfl fun c hp => .chk (by ((try simp only [evE, liE, lO, lU, snd]); (try simp only [cmE])); omega) ?_
  refine .loop (fun n us _ => ∃ (e : Int) (j : Nat), us = [.i e, .i j] ∧ n + j = l.length ∧ ∀ i (hi : i < l.length), i < j → checkW l[i].w.w = 0) l.length ⟨0, 0, rfl, rfl, fun i hi h => by omega⟩ ?_
  rintro n _ m _ ⟨e, j, rfl, hn, hb⟩
  refine .env (by (try simp only [liE, lO, lU, snd, aN]); rfl) (.ite (fun h1 => ?_) (fun h1 => .ret rfl ?_)) <;> ((try simp only [evE, liE, lO, lU, snd] at h1); (try simp only [cmE] at h1))
  · have hj : j < l.length := by omega
    have hk := checkL_at hj hb
    rw [List.drop_eq_getElem_cons hj, List.map_cons, checkL_cons] at hk
    refine .loadFD l j hj (fun g => hp.1.mono g.R) (.env (by (try simp only [liE, lO, lU, snd, aN]); rfl) (.alloc fun b0 => .callV (c_wordCheck l[j].w.p l[j].w.cap l[j].w.w (hok _ (List.getElem_mem hj))) (fun g => (hp.2 _ (List.getElem_mem hj)).mono g.R) (.env (by (try simp only [liE, lO, lU, snd, aN]); rfl) (.ite (fun h3 => .ret rfl ?_) (fun h3 => .again rfl ⟨n - 1, by omega, e, j + 1, ?_, by omega, fun i hi hij => ?_⟩))))) <;> ((try simp only [evE, liE, lO, lU, snd] at h3); (try simp only [cmE] at h3))
    · rw [hk, if_pos h3]; rfl
    · (simp only [evE, liE, lO, lU, snd, Sh.uss, Sh.us, atAddr, map_add0, List.append_nil]); rw [add_i64 j (by omega)]
    · rcases Nat.lt_or_ge i j with h1 | h1
      · exact hb i hi h1
      · have : i = j := by omega
        subst this; exact h3
  · rw [checkL_none fun i hi => hb i hi (by omega)]; rfl
theorem c_isLimit (N D : Int) : Ret Tryd.prog n_cognates_isLimit [.agg #[.int .i64 N, .int .i64 D]] (.bool (limB N D)) := by
  refine Fn.of S_cognates_isLimit mx [.i N, .i D] rfl rfl fun c _ => .alloc fun b0 => .ret rfl ?_
  show Value.bool (bif decide (D > 0) then decide (N ≥ 0) else false) = _
  rw [pick_and]; rfl
theorem c_check19 (p : Option Addr) (cp : Nat) (l : List FD) (pc : Option Addr) (cc : Nat) (ws : List Int) (gap N D : Int) (hl : l.length < 2 ^ 63) (hok : ∀ f ∈ l, Wok f.w.w) : RetP Tryd.prog n_cognates_check [slv p l.length cp, costs pc ws.length cc gap, .agg #[.int .i64 N, .int .i64 D]] (fun R => FormsAt R p l ∧ CostsAt R pc ws) (.int .i64 (check19 ws gap l N D)) := by
  refine Fn.of S_cognates_check mx [.p p, .i l.length, .i cp, .p pc, .i ws.length, .i cc, .i gap, .i N, .i D] rfl rfl fun c hp => .alloc fun b0 => .alloc fun b1 => .callV (c_checkCosts pc cc ws gap) (fun g => hp.2.mono g.R) (.env (by (try simp only [liE, lO, lU, snd, aN]); rfl) (.ite (fun h1 => .ret rfl ?_) (fun h1 => .chk (by ((try simp only [evE, liE, lO, lU, snd]); (try simp only [cmE])); omega) (.ite (fun h2 => .ret rfl ?_) (fun h2 => .callV (c_hidden p cp l hl) (fun g => hp.1.1.mono g.R) (.env (by (try simp only [liE, lO, lU, snd, aN]); rfl) (.ite (fun h3 => .ret rfl ?_) (fun h3 => .callV (c_words19 p cp l hl hok) (fun g => hp.1.mono g.R) (.env (by (try simp only [liE, lO, lU, snd, aN]); rfl) (.ite (fun h4 => .ret rfl ?_) (fun h4 => .callV (c_isLimit N D) (fun _ => trivial) (.env (by (try simp only [liE, lO, lU, snd, aN]); rfl) (.ite (fun h5 => .ret rfl ?_) (fun h5 => .ret rfl ?_)))))))))))))) <;> ((try simp only [evE, liE, lO, lU, snd] at h1 ); (try simp only [cmE] at h1 ))<;> unfold check19
  · rw [if_pos h1]; rfl
  · ((try simp only [evE, liE, lO, lU, snd] at h2); (try simp only [cmE] at h2)); rw [if_neg (by simp [h1]), if_pos (by omega)]; rfl
  · ((try simp only [evE, liE, lO, lU, snd] at h2); (try simp only [cmE] at h2)); replace h3 : l.any blankF = true := h3; rw [if_neg (by simp [h1]), if_neg (by omega), if_pos h3]; rfl
  · ((try simp only [evE, liE, lO, lU, snd] at h2); (try simp only [cmE] at h2)); ((try simp only [evE, liE, lO, lU, snd] at h4); (try simp only [cmE] at h4)); replace h3 : l.any blankF = false := h3; rw [if_neg (by simp [h1]), if_neg (by omega), if_neg (by simp [h3]), if_pos h4]; rfl
  · ((try simp only [evE, liE, lO, lU, snd] at h2); (try simp only [cmE] at h2)); ((try simp only [evE, liE, lO, lU, snd] at h4); (try simp only [cmE] at h4)); replace h3 : l.any blankF = false := h3; replace h5 : (!limB N D) = true := h5; rw [if_neg (by simp [h1]), if_neg (by omega), if_neg (by simp [h3]), if_neg (by simp [h4]), if_neg (by simpa using h5)]; rfl
  · ((try simp only [evE, liE, lO, lU, snd] at h2); (try simp only [cmE] at h2)); ((try simp only [evE, liE, lO, lU, snd] at h4); (try simp only [cmE] at h4)); replace h3 : l.any blankF = false := h3; replace h5 : (!limB N D) = false := h5; rw [if_neg (by simp [h1]), if_neg (by omega), if_neg (by simp [h3]), if_neg (by simp [h4]), if_pos (by simpa using h5)]; rfl
theorem c_mul64 (x y : Nat) (hx : x < 2 ^ 64) (hy : y < 2 ^ 64) : Ret Tryd.prog n_math_bits_Mul64 [.int .u64 x, .int .u64 y] (.tuple #[.int .u64 (x * y / 2 ^ 64 : Nat), .int .u64 (x * y % 2 ^ 64 : Nat)]) := by
  refine Fn.of S_math_bits_Mul64 mx [.i x, .i y] rfl rfl fun c _ => .ret rfl ?_
  obtain ⟨q1, q2, q3, q4⟩ := Go.Lib.mul64_hi x y hx hy
  have u1 := Go.Lib.half_mul_le (a := x / 4294967296) (b := y / 4294967296) (by omega) (by omega)
  have u2 := Go.Lib.half_mul_le (a := x / 4294967296) (b := y % 4294967296) (by omega) (by omega)
  have u3 := Go.Lib.half_mul_le (a := x % 4294967296) (b := y / 4294967296) (by omega) (by omega)
  have hq : x * y / 18446744073709551616 < 18446744073709551616 := by
    have : x * y < 18446744073709551616 * 18446744073709551616 := Nat.mul_lt_mul_of_lt_of_lt hx hy
    exact Nat.div_lt_of_lt_mul this
  show Value.tuple #[.int .u64 (ar .add .u64 (ar .add .u64 (ar .mul .u64 (ar .shr .u64 (x : Int) 32) (ar .shr .u64 (y : Int) 32)) (ar .shr .u64 (ar .add .u64 (ar .mul .u64 (ar .shr .u64 (x : Int) 32) (ar .and .u64 (y : Int) 4294967295)) (ar .shr .u64 (ar .mul .u64 (ar .and .u64 (x : Int) 4294967295) (ar .and .u64 (y : Int) 4294967295)) 32)) 32)) (ar .shr .u64 (ar .add .u64 (ar .and .u64 (ar .add .u64 (ar .mul .u64 (ar .shr .u64 (x : Int) 32) (ar .and .u64 (y : Int) 4294967295)) (ar .shr .u64 (ar .mul .u64 (ar .and .u64 (x : Int) 4294967295) (ar .and .u64 (y : Int) 4294967295)) 32)) 4294967295) (ar .mul .u64 (ar .and .u64 (x : Int) 4294967295) (ar .shr .u64 (y : Int) 32))) 32)), .int .u64 (ar .mul .u64 (x : Int) (y : Int))] = _
  rw [ar_shr32, ar_shr32, ar_low32 x hx, ar_low32 y hy, mulU (by omega), mulU (by omega), mulU q1, mulU (by omega), ar_shr32, addU q2, ar_shr32, ar_low32 _ q2, addU q3, ar_shr32, addU (by omega), addU (by omega), q4, mulU_mod]
theorem c_compare19 (a b c d : Nat) (ha : a < 2 ^ 63) (hb : b < 2 ^ 63) (hc : c < 2 ^ 63) (hd : d < 2 ^ 63) : Ret Tryd.prog n_cognates_compare [.agg #[.int .i64 a, .int .i64 b], .agg #[.int .i64 c, .int .i64 d]] (.int .i64 (cmpF ((a : Int), (b : Int)) ((c : Int), (d : Int)))) := by
  refine Fn.of S_cognates_compare mx [.i a, .i b, .i c, .i d] rfl rfl fun _ _ => .alloc fun b0 => .alloc fun b1 => .callV (c_mul64 a d (by omega) (by omega)) (fun _ => trivial) ?_ (hargs := ?_)
  · refine .env (by (try simp only [liE, lO, lU, snd, aN]); rfl) (.callV (c_mul64 c b (by omega) (by omega)) (fun _ => trivial) ?_ (hargs := ?_))
    · have e1 := Nat.div_add_mod (a * d) (2 ^ 64)
      have e2 := Nat.div_add_mod (c * b) (2 ^ 64)
      have r1 := Nat.mod_lt (a * d) (show 0 < 2 ^ 64 by decide)
      have r2 := Nat.mod_lt (c * b) (show 0 < 2 ^ 64 by decide)
      have hF : cmpF ((a : Int), (b : Int)) ((c : Int), (d : Int)) = if a * d < c * b then -1 else if a * d = c * b then 0 else 1 := by
        unfold cmpF
        simp only []
        rw [show (a : Int) * (d : Int) = ((a * d : Nat) : Int) by norm_cast, show (c : Int) * (b : Int) = ((c * b : Nat) : Int) by norm_cast]
        generalize a * d = X
        generalize c * b = Y
        by_cases q1 : X < Y
        · rw [if_pos (by omega), if_pos q1]
        · rw [if_neg (by omega), if_neg q1]
          by_cases q2 : X = Y
          · rw [if_pos (by omega), if_pos q2]
          · rw [if_neg (by omega), if_neg q2]
      rw [hF]
      generalize a * d / 2 ^ 64 = h at *
      generalize a * d % 2 ^ 64 = l at *
      generalize c * b / 2 ^ 64 = h' at *
      generalize c * b % 2 ^ 64 = l' at *
      generalize a * d = X at *
      generalize c * b = Y at *
      refine .env (by (try simp only [liE, lO, lU, snd, aN]); rfl) (.ite (fun h1 => .ite (fun h2 => .ret rfl ?_) (fun h2 => .ite (fun h3 => .ret rfl ?_) (fun h3 => .ite (fun h4 => .ret rfl ?_) (fun h4 => .ret rfl ?_)))) (fun h1 => .ite (fun h2 => .ret rfl ?_) (fun h2 => .ite (fun h4 => .ret rfl ?_) (fun h4 => .ret rfl ?_)))) <;> ((try simp only [evE, liE, lO, lU, snd] at h1 ); (try simp only [cmE] at h1 ))<;> ((try simp only [evE, liE, lO, lU, snd] at h2); (try simp only [cmE] at h2))
      · omega
      · ((try simp only [evE, liE, lO, lU, snd] at h3); (try simp only [cmE] at h3)); rw [if_pos (by omega)]; rfl
      · ((try simp only [evE, liE, lO, lU, snd] at h3); (try simp only [cmE] at h3)); ((try simp only [evE, liE, lO, lU, snd] at h4); (try simp only [cmE] at h4)); rw [if_neg (by omega), if_pos (by omega)]; rfl
      · ((try simp only [evE, liE, lO, lU, snd] at h3); (try simp only [cmE] at h3)); ((try simp only [evE, liE, lO, lU, snd] at h4); (try simp only [cmE] at h4)); rw [if_neg (by omega), if_neg (by omega)]; rfl
      · rw [if_pos (by omega)]; rfl
      · ((try simp only [evE, liE, lO, lU, snd] at h4); (try simp only [cmE] at h4)); omega
      · ((try simp only [evE, liE, lO, lU, snd] at h4); (try simp only [cmE] at h4))
        replace h2 : (bif decide ((h : Int) < (h' : Int)) then true else false) = false := by first | exact h2 | simpa using h2
        have h2' : ¬ h < h' := fun q => by rw [decide_eq_true (show (h : Int) < (h' : Int) by omega)] at h2; cases h2
        rw [if_neg (by omega), if_neg (by omega)]; rfl
    · simp only [SV.dens, SV.den, IT.eval]
      show [Value.int .u64 (IntKind.u64.wrap (c : Int)), .int .u64 (IntKind.u64.wrap (b : Int))] = _
      rw [conv_u64 (by omega), conv_u64 (by omega)]
  · simp only [SV.dens, SV.den, IT.eval]
    show [Value.int .u64 (IntKind.u64.wrap (a : Int)), .int .u64 (IntKind.u64.wrap (d : Int))] = _
    rw [conv_u64 (by omega), conv_u64 (by omega)]
end Go.Proofs.YthabfpagilbplaaDoor
/- Chapter 19: classes of words in memory; the ratio of two; near. -/
namespace Go.Sy
open Go Go.RowKit
def flat2 (f : Nat → Nat → Int × Int) (t : Nat) : Value := .int .i64 (if t % 2 = 0 then (f (t / 32) (t / 2 % 16)).1 else (f (t / 32) (t / 2 % 16)).2)
def ccells (lab : Value) (f : Nat → Nat → Int × Int) (gap : Int) : List Value := lab :: ((List.range 512).map (flat2 f) ++ [.int .i64 gap])
theorem ccells_len (lab : Value) (f : Nat → Nat → Int × Int) (gap : Int) : (ccells lab f gap).length = 514 := by simp [ccells]
theorem ccells_get (lab : Value) (f : Nat → Nat → Int × Int) (gap : Int) (t : Nat) : (ccells lab f gap)[t]? = if t = 0 then some lab else if t < 513 then some (flat2 f (t - 1)) else if t = 513 then some (.int .i64 gap) else none := by
  unfold ccells
  cases t with
  | zero => rfl
  | succ t =>
    rw [List.getElem?_cons_succ, if_neg (by omega)]
    rcases Nat.lt_or_ge t 512 with h | h
    · rw [if_pos (by omega), List.getElem?_append_left (by simpa using h), List.getElem?_map, List.getElem?_range h]; rfl
    · rw [if_neg (by omega), List.getElem?_append_right (by simpa using h)]
      simp only [List.length_map, List.length_range]
      by_cases e : t = 512
      · subst e; rfl
      · rw [if_neg (by omega), List.getElem?_eq_none (by simp; omega)]
theorem flat2_at (f : Nat → Nat → Int × Int) (i k : Nat) (hk : k < 16) : flat2 f (i * 32 + k * 2) = .int .i64 (f i k).1 ∧ flat2 f (i * 32 + k * 2 + 1) = .int .i64 (f i k).2 := by
  unfold flat2
  rw [if_pos (by omega), if_neg (by omega), show (i * 32 + k * 2) / 32 = i by omega, show (i * 32 + k * 2) / 2 % 16 = k by omega, show (i * 32 + k * 2 + 1) / 32 = i by omega, show (i * 32 + k * 2 + 1) / 2 % 16 = k by omega]
  exact ⟨rfl, rfl⟩
theorem ccells_at (lab : Value) (f : Nat → Nat → Int × Int) (gap : Int) (i k : Nat) (hi : i < 16) (hk : k < 16) : (ccells lab f gap)[1 + i * 32 + k * 2]? = some (.int .i64 (f i k).1) ∧ (ccells lab f gap)[1 + i * 32 + k * 2 + 1]? = some (.int .i64 (f i k).2) := by
  have h := flat2_at f i k hk
  rw [ccells_get, ccells_get, if_neg (by omega), if_pos (by omega), if_neg (by omega), if_pos (by omega), ← h.1, ← h.2]
  exact ⟨by congr 2; omega, by congr 2; omega⟩
def updC (f : Nat → Nat → Int × Int) (i k : Nat) (v : Int × Int) : Nat → Nat → Int × Int := fun i' k' => if i' = i ∧ k' = k then v else f i' k'
theorem flat2_upd (f : Nat → Nat → Int × Int) (i k : Nat) (v : Int × Int) (hk : k < 16) (t : Nat) : flat2 (updC f i k v) t = if t = i * 32 + k * 2 then .int .i64 v.1 else if t = i * 32 + k * 2 + 1 then .int .i64 v.2 else flat2 f t := by
  unfold flat2 updC
  by_cases h1 : t = i * 32 + k * 2
  · rw [if_pos h1, if_pos (by omega), if_pos (by omega)]
  · rw [if_neg h1]
    by_cases h2 : t = i * 32 + k * 2 + 1
    · rw [if_pos h2, if_neg (by omega), if_pos (by omega)]
    · rw [if_neg h2]
      by_cases h3 : t / 32 = i ∧ t / 2 % 16 = k
      · omega
      · rw [if_neg h3]
theorem ccells_zero (lab : Value) (gap : Int) : ccells lab (fun _ _ => (0, 0)) gap = lab :: (List.replicate 512 (.int .i64 0) ++ [.int .i64 gap]) := by
  unfold ccells
  refine congrArg (fun z => lab :: (z ++ [Value.int .i64 gap])) ?_
  apply List.ext_getElem?
  intro t
  rw [List.getElem?_map, List.getElem?_replicate]
  split
  · rename_i h; rw [List.getElem?_range h]; simp [flat2]
  · rename_i h; rw [List.getElem?_eq_none (by simpa using h)]; rfl
theorem putAt_get (l : List Value) (o : Nat) (xs : List Value) (h : o + xs.length ≤ l.length) (t : Nat) : (putAt l o xs)[t]? = if o ≤ t ∧ t < o + xs.length then xs[t - o]? else l[t]? := by
  unfold putAt
  rw [List.append_assoc]
  have e : (l.take o).length = o := by rw [List.length_take]; omega
  rcases Nat.lt_or_ge t o with h1 | h1
  · rw [List.getElem?_append_left (by omega), List.getElem?_take_of_lt h1, if_neg (by omega)]
  · rw [List.getElem?_append_right (by omega), e]
    rcases Nat.lt_or_ge t (o + xs.length) with h2 | h2
    · rw [List.getElem?_append_left (by omega), if_pos ⟨h1, h2⟩]
    · rw [List.getElem?_append_right (by omega), List.getElem?_drop, if_neg (by omega)]
      congr 1; omega
theorem ccells_put (lab : Value) (f : Nat → Nat → Int × Int) (gap : Int) (i k : Nat) (v : Int × Int) (hi : i < 16) (hk : k < 16) : putAt (ccells lab f gap) (1 + i * 32 + k * 2) [.int .i64 v.1, .int .i64 v.2] = ccells lab (updC f i k v) gap := by
  apply List.ext_getElem?
  intro t
  rw [putAt_get _ _ _ (by rw [ccells_len]; simp; omega), ccells_get, ccells_get]
  simp only [List.length_cons, List.length_nil]
  by_cases h0 : t = 0
  · rw [if_neg (by omega), if_pos h0, if_pos h0]
  · rw [if_neg h0, if_neg h0, flat2_upd f i k v hk]
    by_cases h1 : t = 1 + i * 32 + k * 2
    · rw [if_pos (by omega), if_pos (by omega), if_pos (by omega), h1, Nat.sub_self]; rfl
    · by_cases h2 : t = 1 + i * 32 + k * 2 + 1
      · rw [if_pos (by omega), if_pos (by omega), if_neg (by omega), if_pos (by omega), show t - (1 + i * 32 + k * 2) = 1 by omega]; rfl
      · rw [if_neg (by omega), if_neg (show ¬ t - 1 = _ by omega), if_neg (show ¬ t - 1 = _ by omega)]
theorem ccells_putA (lab : Value) (f : Nat → Nat → Int × Int) (gap : Int) (i k : Nat) (x : Int) (hi : i < 16) (hk : k < 16) : putAt (ccells lab f gap) (1 + i * 32 + k * 2) [.int .i64 x] = ccells lab (updC f i k (x, (f i k).2)) gap := by
  rw [← ccells_put lab f gap i k _ hi hk]
  have h := ccells_at lab f gap i k hi hk
  apply List.ext_getElem?
  intro t
  rw [putAt_get _ _ _ (by rw [ccells_len]; simp; omega), putAt_get _ _ _ (by rw [ccells_len]; simp; omega)]
  simp only [List.length_cons, List.length_nil]
  by_cases h1 : t = 1 + i * 32 + k * 2
  · rw [if_pos (by omega), if_pos (by omega), h1, Nat.sub_self]; rfl
  · by_cases h2 : t = 1 + i * 32 + k * 2 + 1
    · rw [if_neg (by omega), if_pos (by omega), h2, h.2, show 1 + i * 32 + k * 2 + 1 - (1 + i * 32 + k * 2) = 1 by omega]; rfl
    · rw [if_neg (by omega), if_neg (by omega)]
theorem ccells_putB (lab : Value) (f : Nat → Nat → Int × Int) (gap : Int) (i k : Nat) (x : Int) (hi : i < 16) (hk : k < 16) : putAt (ccells lab f gap) (1 + i * 32 + k * 2 + 1) [.int .i64 x] = ccells lab (updC f i k ((f i k).1, x)) gap := by
  rw [← ccells_put lab f gap i k _ hi hk]
  have h := ccells_at lab f gap i k hi hk
  apply List.ext_getElem?
  intro t
  rw [putAt_get _ _ _ (by rw [ccells_len]; simp; omega), putAt_get _ _ _ (by rw [ccells_len]; simp; omega)]
  simp only [List.length_cons, List.length_nil]
  by_cases h1 : t = 1 + i * 32 + k * 2
  · rw [if_neg (by omega), if_pos (by omega), h1, h.1, Nat.sub_self]; rfl
  · by_cases h2 : t = 1 + i * 32 + k * 2 + 1
    · rw [if_pos (by omega), if_pos (by omega), show t - (1 + i * 32 + k * 2 + 1) = 0 by omega, show t - (1 + i * 32 + k * 2) = 1 by omega]; rfl
    · rw [if_neg (by omega), if_neg (by omega)]
theorem ccells_putL (lab lab' : Value) (f : Nat → Nat → Int × Int) (gap : Int) : putAt (ccells lab f gap) 0 [lab'] = ccells lab' f gap := by
  unfold putAt ccells
  generalize (List.range 512).map (flat2 f) ++ [Value.int .i64 gap] = z
  rfl
theorem DenM.load2 {P : Program} {c : Cx} {L : List Nat} {ρ : Env} {blks : List Blk} {m : Mem} {R : Value → HW → Prop} {Dn : Nat → List U → HW → Prop} {A : List (List U → HW → Prop)} {i : Nat} {off : IT} {k : Tree} {k1 k2 : IntKind} (xs : List Value) (j : Nat) (x y : Int) (ho : off.eval ρ = (j : Int)) (hx : xs[j]? = some (.int k1 x)) (hy : xs[j + 1]? = some (.int k2 y)) (hw : Good c L m → Cells (vw c L ρ blks m) (ρ.ptr i) xs)
    (hk : DenM P R Dn k L (ρ ++ [.i x, .i y]) c m A) : DenM P R Dn (.load i off [.int k1, .int k2] blks k) L ρ c m A := by
  refine .loadC [.i x, .i y] (ρ.ptr i) xs j rfl ho rfl hw (List.getElem?_eq_some_iff.1 hx).1 (fun q' v hv => ?_) hk
  have h1 : (ρ ++ [U.i x, .i y])[ρ.length]? = some (U.i x) := getElem_env ρ _ 0
  have h2 : (ρ ++ [U.i x, .i y])[ρ.length + 1]? = some (U.i y) := getElem_env ρ _ 1
  match q', hv with
  | 0, hv =>
    simp only [Sh.freshs, Sh.fresh, SV.dens, SV.den, IT.eval, Env.int, List.getElem?_cons_zero, Option.some.injEq] at hv
    rw [h1] at hv; rw [← hv]; exact hx
  | 1, hv =>
    simp only [Sh.freshs, Sh.fresh, SV.dens, SV.den, IT.eval, Env.int, List.getElem?_cons_succ, List.getElem?_cons_zero, Option.some.injEq] at hv
    rw [h2] at hv; rw [← hv]; exact hy
  | q' + 2, hv => simp [Sh.freshs, SV.dens] at hv
end Go.Sy
namespace Go.Proofs.YthabfpagilbplaaDoor
open Go Go.Sy Go.RowKit
def ratC (gap : Int) (x : Int × Int) : Int × Int := if gap * x.2 = 0 then (0, 1) else (x.1, gap * x.2)
theorem mulI {a b : Int} (h1 : -9223372036854775808 ≤ a * b) (h2 : a * b < 9223372036854775808) : ar .mul .i64 a b = a * b := wrap_i64 h1 (by omega)
def Small (x : Int × Int) (gap : Int) : Prop := 0 ≤ x.1 ∧ x.1 < 2 ^ 62 ∧ 0 ≤ x.2 ∧ x.2 ≤ 65536 ∧ 0 ≤ gap ∧ gap ≤ 1073741824
theorem Small.mul {x : Int × Int} {gap : Int} (h : Small x gap) : 0 ≤ gap * x.2 ∧ gap * x.2 ≤ 1073741824 * 65536 := by
  obtain ⟨_, _, h3, h4, h5, h6⟩ := h
  exact ⟨Int.mul_nonneg h5 h3, Int.le_trans (Int.mul_le_mul_of_nonneg_right h6 h3) (Int.mul_le_mul_of_nonneg_left h4 (by decide))⟩
theorem Small.rat {x : Int × Int} {gap : Int} (h : Small x gap) : 0 ≤ (ratC gap x).1 ∧ (ratC gap x).1 < 2 ^ 62 ∧ 0 < (ratC gap x).2 ∧ (ratC gap x).2 < 2 ^ 62 := by
  have := h.mul
  unfold ratC
  split
  · decide
  · exact ⟨h.1, h.2.1, by show 0 < gap * x.2; omega, by show gap * x.2 < _; omega⟩
theorem c_ratio (xb : Nat) (lab : Value) (f : Nat → Nat → Int × Int) (gap : Int) (a b : Nat) (ha : a < 16) (hb : b < 16) (hs : Small (f a b) gap) :
    RetP Tryd.prog n___cognates_classes__ratio [.pointer (some ⟨xb, 0, none⟩), .int .i64 a, .int .i64 b] (fun R => Cells R (some ⟨xb, 0, none⟩) (ccells lab f gap)) (.agg #[.int .i64 (ratC gap (f a b)).1, .int .i64 (ratC gap (f a b)).2]) := by
  have hx := ccells_at lab f gap a b ha hb
  have hm := hs.mul
  have em : ar .mul .i64 gap (f a b).2 = gap * (f a b).2 := mulI (by omega) (by omega)
  have hg : (ccells lab f gap)[513]? = some (.int .i64 gap) := by rw [ccells_get]; rfl
  refine Fn.of S___cognates_classes__ratio mx [.p (some ⟨xb, 0, none⟩), .i a, .i b] rfl rfl fun c hp => .alloc fun b0 => .chk rfl (.chk rfl (.chk ?_ (.chk ?_ (.load2 _ (1 + a * 32 + b * 2) _ _ ?_ hx.1 hx.2 (fun g => hp.mono g.R) (.alloc fun b1 => .chk rfl (.chk rfl (.load1 _ _ _ 513 rfl rfl (fun g => hp.mono g.R) hg (.env (by (try simp only [liE, lO, lU, snd, aN]); rfl) (.ite (fun h => .ret rfl ?_) (fun h => .chk rfl (.chk rfl (.load1 _ _ _ 513 rfl rfl (fun g => hp.mono g.R) hg (.ret rfl ?_))))))))))))) 
  · ((try simp only [evE, liE, lO, lU, snd]); (try simp only [cmE])); simp; omega
  · ((try simp only [evE, liE, lO, lU, snd]); (try simp only [cmE])); simp; omega
  · show ((1 : Int) + (a : Int) * ((32 : Nat) : Int)) + (b : Int) * ((2 : Nat) : Int) = _; omega
  · ((try simp only [evE, liE, lO, lU, snd] at h); (try simp only [cmE] at h)); rw [em] at h; unfold ratC; rw [if_pos h]; rfl
  · ((try simp only [evE, liE, lO, lU, snd] at h); (try simp only [cmE] at h)); rw [em] at h; unfold ratC; rw [if_neg h]; show Value.agg #[.int .i64 (f a b).1, .int .i64 (ar .mul .i64 gap (f a b).2)] = _; rw [em]
end Go.Proofs.YthabfpagilbplaaDoor
/- Chapter 19: the pairs of classes, as cognates goes over them; near. -/
namespace Go.Sy
open Go Go.RowKit
def intsL (l : List Int) : List Value := l.map (Value.int .i64)
theorem intsL_len (l : List Int) : (intsL l).length = l.length := List.length_map _
theorem intsL_at (l : List Int) (i : Nat) (h : i < l.length) : (intsL l)[i]? = some (.int .i64 (labAt l i)) := by
  unfold intsL labAt; rw [List.getElem?_map, List.getElem?_eq_getElem h]; rfl
def okP (lab : List Int) (t : Nat) : Bool := decide (t / lab.length < t % lab.length) && (labAt lab (t / lab.length) == ((t / lab.length : Nat) : Int)) && (labAt lab (t % lab.length) == ((t % lab.length : Nat) : Int))
def pairsN (lab : List Int) : List Nat := (List.range (lab.length * lab.length)).filter (okP lab)
def cntP (lab : List Int) (t : Nat) : Nat := ((List.range t).filter (okP lab)).length
theorem cntP_succ (lab : List Int) (t : Nat) : cntP lab (t + 1) = cntP lab t + if okP lab t then 1 else 0 := by
  unfold cntP
  rw [List.range_succ, List.filter_append, List.length_append, List.filter_cons, List.filter_nil]
  split <;> simp
theorem cntP_skip (lab : List Int) (s : Nat) : ∀ d, (∀ t, s ≤ t → t < s + d → okP lab t = false) → cntP lab (s + d) = cntP lab s
  | 0, _ => rfl
  | d + 1, h => by
    rw [← Nat.add_assoc, cntP_succ, h (s + d) (by omega) (by omega), cntP_skip lab s d fun t h1 h2 => h t h1 (by omega)]; simp
theorem pairsN_at (lab : List Int) (t : Nat) (ht : t < lab.length * lab.length) (h : okP lab t = true) : (pairsN lab)[cntP lab t]? = some t := by
  have := filter_at (okP lab) (List.range (lab.length * lab.length)) t (by simpa using ht) (by simpa using h)
  rw [List.take_range, Nat.min_eq_left (by omega)] at this
  simpa [pairsN, cntP] using this
theorem okP_at (lab : List Int) (a b : Nat) (hb : b < lab.length) : okP lab (a * lab.length + b) = (decide (a < b) && (labAt lab a == (a : Int)) && (labAt lab b == (b : Int))) := by
  unfold okP
  have e1 : (a * lab.length + b) / lab.length = a := by rw [Nat.mul_comm, Nat.mul_add_div (by omega), Nat.div_eq_of_lt hb, Nat.add_zero]
  have e2 : (a * lab.length + b) % lab.length = b := by rw [Nat.mul_comm, Nat.mul_add_mod, Nat.mod_eq_of_lt hb]
  rw [e1, e2]
theorem pair_lt {a b n : Nat} (ha : a < n) (hb : b < n) : a * n + b < n * n := by
  have : (a + 1) * n ≤ n * n := Nat.mul_le_mul_right n ha
  rw [Nat.succ_mul] at this; omega
def pairV (n t : Nat) : List Value := [.int .i64 ((t / n : Nat) : Int), .int .i64 ((t % n : Nat) : Int)]
def pairU (n t : Nat) : List U := [.i ((t / n : Nat) : Int), .i ((t % n : Nat) : Int)]
theorem pairV_at (lab : List Int) (a b : Nat) (hb : b < lab.length) : pairV lab.length (a * lab.length + b) = [.int .i64 (a : Int), .int .i64 (b : Int)] := by
  unfold pairV
  have e1 : (a * lab.length + b) / lab.length = a := by rw [Nat.mul_comm, Nat.mul_add_div (by omega), Nat.div_eq_of_lt hb, Nat.add_zero]
  have e2 : (a * lab.length + b) % lab.length = b := by rw [Nat.mul_comm, Nat.mul_add_mod, Nat.mod_eq_of_lt hb]
  rw [e1, e2]
end Go.Sy
namespace Go.Proofs.YthabfpagilbplaaDoor
open Go Go.Sy Go.RowKit
theorem c_cmp (x y : Int × Int) (h1 : 0 ≤ x.1 ∧ x.1 < 2 ^ 63) (h2 : 0 ≤ x.2 ∧ x.2 < 2 ^ 63) (h3 : 0 ≤ y.1 ∧ y.1 < 2 ^ 63) (h4 : 0 ≤ y.2 ∧ y.2 < 2 ^ 63) :
    Ret Tryd.prog n_cognates_compare [.agg #[.int .i64 x.1, .int .i64 x.2], .agg #[.int .i64 y.1, .int .i64 y.2]] (.int .i64 (cmpF x y)) := by
  obtain ⟨a, b⟩ := x
  obtain ⟨c, d⟩ := y
  obtain ⟨a, rfl⟩ := Int.eq_ofNat_of_zero_le h1.1
  obtain ⟨b, rfl⟩ := Int.eq_ofNat_of_zero_le h2.1
  obtain ⟨c, rfl⟩ := Int.eq_ofNat_of_zero_le h3.1
  obtain ⟨d, rfl⟩ := Int.eq_ofNat_of_zero_le h4.1
  dsimp only at *
  exact c_compare19 a b c d (by omega) (by omega) (by omega) (by omega)
def boxP (b xb : Nat) : Mem := Mem.emp.upd b (box 88 (.pointer (some ⟨xb, 0, none⟩)))
theorem c_pairs19 (xb : Nat) : FnM Tryd.prog n___cognates_classes__pairs [.pointer (some ⟨xb, 0, none⟩)] (fun _ => True) fun v mq _ => ∃ b, v = .func (.func n___cognates_classes__pairs_1) #[] #[.pointer (some ⟨b, 0, none⟩)] ∧ mq = boxP b xb :=
  FnM.of S___cognates_classes__pairs mx [.p (some ⟨xb, 0, none⟩)] rfl rfl fun c _ => .alloc fun b => .retL rfl fun g => ⟨b, rfl, rfl⟩
theorem it_pairs (xb b0 : Nat) (q : Option Addr) (cq : Nat) (lab : List Int) (hl : lab.length ≤ 16) (S : Mv) (hS : Cells S (some ⟨xb, 0, none⟩) [slv q lab.length cq] ∧ Cells S q (intsL lab)) :
    Iter Tryd.prog n___cognates_classes__pairs_1 #[.pointer (some ⟨b0, 0, none⟩)] (fun w => S.le (Mv.of w)) (HW.mem (boxP b0 xb)) ((pairsN lab).map (pairV lab.length)) := by
  refine Iter.of S___cognates_classes__pairs_1 mx [.p (some ⟨b0, 0, none⟩)] (fun yv => rfl) (fun yv h => by simp [Sh.eats, Sh.eat, eatV, eatP, h]) ?_
  intro yv J E hyv hy hpre h hw hJ hdj
  have hA : ∀ {hX : HW} (hw : ∃ w, hX.H w) (q : Nat), J q hX → ∀ w, hX.H w → S.le (Mv.of w) := fun hw q hq w h => hpre q _ w hq h
  have b0e : boxP b0 xb b0 = some (box 88 (.pointer (some ⟨xb, 0, none⟩))) := Mem.upd_same ..
  generalize boxP b0 xb = m at *
  refine .loadB (.pointer (some ⟨xb, 0, none⟩)) b0 88 rfl b0e (.chk rfl (.chk rfl (.into hw (hA hw _ hJ) (.loadS [slv q lab.length cq] 0 q lab.length cq rfl rfl (fun g => hS.1.mono g.R) (.chk (by ((try simp only [evE, liE, lO, lU, snd]); (try simp only [cmE])); omega) (.env (by (try simp only [liE, lO, lU, snd, aN]); rfl) ?_))))))
  refine .loopY (fun n us m' hT => ∃ a : Nat, a ≤ lab.length ∧ n = lab.length - a ∧ us = [.i (a : Int)] ∧ m = m' ∧ J (cntP lab (a * lab.length)) hT) lab.length ⟨0, Nat.zero_le _, rfl, rfl, rfl, by rw [Nat.zero_mul]; exact hJ⟩ ?_
  rintro n us m' hX _ ⟨a, ha, rfl, rfl, rfl, hq⟩ hwX
  refine .env (by (try simp only [liE, lO, lU, snd, aN]); rfl) (.ite (fun h1 => ?_) (fun h1 => ?_)) <;> ((try simp only [evE, liE, lO, lU, snd] at h1); (try simp only [cmE] at h1))
  · have ha : a < lab.length := by omega
    refine .into hwX (hA hwX _ hq) (.elem1 (.int .i64 (labAt lab a)) (intsL lab) a lab.length rfl rfl ha (fun g => hS.2.mono g.R) (intsL_at lab a ha) (.env (by (try simp only [liE, lO, lU, snd, aN]); rfl) ?_))
    refine .loopY (fun n us m' hT => ∃ b : Nat, a < b ∧ b ≤ lab.length ∧ n = lab.length - b ∧ us = [.i (b : Int)] ∧ m = m' ∧ J (cntP lab (a * lab.length + b)) hT) (lab.length - (a + 1)) ⟨a + 1, by omega, by omega, rfl, ?_, rfl, ?_⟩ ?_
    · (simp only [evE, liE, lO, lU, snd, Sh.uss, Sh.us, atAddr, map_add0, List.append_nil]); rw [add_i64 a (by omega)]
    · rw [cntP_skip lab (a * lab.length) (a + 1) ?_]
      · exact hq
      · intro t h1 h2
        obtain ⟨b, rfl⟩ : ∃ b, t = a * lab.length + b := ⟨t - a * lab.length, by omega⟩
        rw [okP_at lab a b (by omega), decide_eq_false (by omega)]; rfl
    rintro n us m' hY _ ⟨b, hab, hb, rfl, rfl, rfl, hq2⟩ hwY
    refine .env (by (try simp only [liE, lO, lU, snd, aN]); rfl) (.loadB (.pointer (some ⟨xb, 0, none⟩)) b0 88 rfl b0e (.chk rfl (.chk rfl (.into hwY (hA hwY _ hq2) (.loadS [slv q lab.length cq] 0 q lab.length cq rfl rfl (fun g => hS.1.mono g.R) (.chk (by ((try simp only [evE, liE, lO, lU, snd]); (try simp only [cmE])); omega) (.env (by (try simp only [liE, lO, lU, snd, aN]); rfl) (.ite (fun h2 => ?_) (fun h2 => ?_)))))))))
    · replace h2 : (bif decide ((b : Int) < (lab.length : Int)) then (labAt lab a == (a : Int)) else false) = true := h2
      have hb : b < lab.length := by
        rcases Nat.lt_or_ge b lab.length with h | h
        · exact h
        · rw [decide_eq_false (by omega)] at h2; cases h2
      rw [decide_eq_true (by omega)] at h2
      replace h2 : (labAt lab a == (a : Int)) = true := h2
      have hok := okP_at lab a b hb
      rw [h2, decide_eq_true hab] at hok
      refine .loadB (.pointer (some ⟨xb, 0, none⟩)) b0 88 rfl b0e (.chk rfl (.chk rfl (.loadS [slv q lab.length cq] 0 q lab.length cq rfl rfl (fun g => hS.1.mono g.R) (.env (by (try simp only [liE, lO, lU, snd, aN]); rfl) (.elem1 (.int .i64 (labAt lab b)) (intsL lab) b lab.length rfl rfl hb (fun g => hS.2.mono g.R) (intsL_at lab b hb) (.env (by (try simp only [liE, lO, lU, snd, aN]); rfl) (.ite (fun h3 => ?_) (fun h3 => ?_))))))))
      · replace h3 : (labAt lab b == (b : Int)) = true := h3
        rw [h3] at hok
        have hc := cntP_succ lab (a * lab.length + b)
        replace hok : okP lab (a * lab.length + b) = true := hok
        rw [if_pos hok] at hc
        refine .yield hy (q := cntP lab (a * lab.length + b)) (x := [.int .i64 (a : Int), .int .i64 (b : Int)]) hq2 (by rw [List.getElem?_map, pairsN_at lab _ (pair_lt ha hb) hok]; exact congrArg some (pairV_at lab a b hb)) (fun hX' hw' hJ' => .no rfl (.againY rfl ⟨lab.length - (b + 1), by omega, b + 1, by omega, by omega, rfl, ?_, rfl, ?_⟩)) (fun hX' hE => .yes rfl (.stop (.inr hE)))
        · (simp only [evE, liE, lO, lU, snd, Sh.uss, Sh.us, atAddr, map_add0, List.append_nil]); rw [add_i64 b (by omega)]
        · rw [← Nat.add_assoc, hc]; exact hJ'
      · replace h3 : (labAt lab b == (b : Int)) = false := h3
        rw [h3] at hok
        have hc := cntP_succ lab (a * lab.length + b)
        rw [if_neg (by rw [hok]; simp)] at hc
        refine .againY rfl ⟨lab.length - (b + 1), by omega, b + 1, by omega, by omega, rfl, ?_, rfl, ?_⟩
        · (simp only [evE, liE, lO, lU, snd, Sh.uss, Sh.us, atAddr, map_add0, List.append_nil]); rw [add_i64 b (by omega)]
        · rw [← Nat.add_assoc, hc]; exact hq2
    · replace h2 : (bif decide ((b : Int) < (lab.length : Int)) then (labAt lab a == (a : Int)) else false) = false := h2
      refine .againY rfl ⟨lab.length - (a + 1), by omega, a + 1, by omega, rfl, ?_, rfl, ?_⟩
      · (simp only [evE, liE, lO, lU, snd, Sh.uss, Sh.us, atAddr, map_add0, List.append_nil]); rw [add_i64 a (by omega)]
      · have : (a + 1) * lab.length = (a * lab.length + b) + (lab.length - b) := by rw [Nat.succ_mul]; omega
        rw [this, cntP_skip lab _ _ ?_]
        · exact hq2
        · intro t h3 h4
          obtain ⟨k, rfl⟩ : ∃ k, t = a * lab.length + k := ⟨t - a * lab.length, by omega⟩
          rw [decide_eq_true (show (b : Int) < (lab.length : Int) by omega)] at h2
          replace h2 : (labAt lab a == (a : Int)) = false := h2
          rw [okP_at lab a k (by omega), h2]; simp
  · have : a = lab.length := by omega
    subst this
    exact .stop (.inl (by rw [List.length_map]; exact hq))
theorem c_near (xb b1 b2 : Nat) (lab : Value) (f : Nat → Nat → Int × Int) (gap : Int) (a b : Nat) (ha : a < 16) (hb : b < 16) (hs : Small (f a b) gap) (N D : Int) (hl : limB N D = true) (hN : N < 2 ^ 63) (hD : D < 2 ^ 63) :
    RetP Tryd.prog n_cognates_Labels_1 [.int .i64 a, .int .i64 b, .pointer (some ⟨b2, 0, none⟩), .pointer (some ⟨b1, 0, none⟩)] (fun R => Cells R (some ⟨b2, 0, none⟩) [.pointer (some ⟨xb, 0, none⟩)] ∧ Cells R (some ⟨b1, 0, none⟩) [.int .i64 N, .int .i64 D] ∧ Cells R (some ⟨xb, 0, none⟩) (ccells lab f gap))
      (.bool (leF (ratC gap (f a b)) (N, D))) := by
  have hr := hs.rat
  have hl' : 0 ≤ N ∧ 0 < D := by simp [limB] at hl; omega
  refine Fn.of S_cognates_Labels_1 mx [.i a, .i b, .p (some ⟨b2, 0, none⟩), .p (some ⟨b1, 0, none⟩)] rfl rfl fun c hp => .load1 (.pointer (some ⟨xb, 0, none⟩)) _ _ 0 rfl rfl (fun g => hp.1.mono g.R) rfl (.load2 _ 0 N D rfl rfl rfl (fun g => hp.2.1.mono g.R) (.env (by (try simp only [liE, lO, lU, snd, aN]); rfl) (.callV (c_ratio xb lab f gap a b ha hb hs) (fun g => hp.2.2.mono g.R) (.env (by (try simp only [liE, lO, lU, snd, aN]); rfl) (.callV (c_cmp (ratC gap (f a b)) (N, D) (by omega) (by omega) (by dsimp only; omega) (by dsimp only; omega)) (fun _ => trivial) (.env (by (try simp only [liE, lO, lU, snd, aN]); rfl) (.ret rfl ?_)))))))
  show Value.bool (decide (cmpF (ratC gap (f a b)) (N, D) ≤ 0)) = _
  congr 1
  rw [Bool.eq_iff_iff, decide_eq_true_iff, cmpF_le]
end Go.Proofs.YthabfpagilbplaaDoor
/- Chapter 19: each word as a class of its own. -/
namespace Go.Sy
open Go Go.RowKit
def pairX (ws : List Int) (gap : Int) (l : List FD) (i k : Nat) : Int × Int := match l[i]?, l[k]? with
  | some x, some y => if x.has && y.has then (rst (dC ws gap) gap x.w.w y.w.w, ((x.w.w.length + y.w.w.length : Nat) : Int)) else (0, 0)
  | _, _ => (0, 0)
def tabX (ws : List Int) (gap : Int) (l : List FD) (i k : Nat) : Int × Int := if i = k then (0, 0) else pairX ws gap l i k
end Go.Sy
namespace Go.Proofs.YthabfpagilbplaaDoor
open Go Go.Sy Go.RowKit
theorem pairX_comm (ws : List Int) (gap : Int) (l : List FD) (i k : Nat) : pairX ws gap l i k = pairX ws gap l k i := by
  unfold pairX
  cases l[i]? with
  | none => cases l[k]? <;> rfl
  | some x =>
    cases l[k]? with
    | none => rfl
    | some y =>
      dsimp only
      rw [rst_comm (dC_comm ws gap) x.w.w y.w.w, Bool.and_comm, Nat.add_comm]
def partX (ws : List Int) (gap : Int) (l : List FD) (i k : Nat) : Nat → Nat → Int × Int := fun a b => if (a < i ∧ b < i) ∨ (a = i ∧ b < k) ∨ (b = i ∧ a < k) then tabX ws gap l a b else (0, 0)
theorem partX_zero (ws : List Int) (gap : Int) (l : List FD) : partX ws gap l 0 0 = fun _ _ => (0, 0) := by
  funext a b; unfold partX; rw [if_neg (by omega)]
theorem partX_next (ws : List Int) (gap : Int) (l : List FD) (i : Nat) : partX ws gap l (i + 1) 0 = partX ws gap l i i := by
  funext a b; unfold partX
  by_cases h : a = i ∧ b = i
  · rw [if_pos (by omega), if_neg (by omega), h.1, h.2]; unfold tabX; rw [if_pos rfl]
  · by_cases h2 : a < i + 1 ∧ b < i + 1
    · rw [if_pos (by omega), if_pos (by omega)]
    · rw [if_neg (by omega), if_neg (by omega)]
theorem partX_step (ws : List Int) (gap : Int) (l : List FD) (i k : Nat) (hk : k < i) : updC (updC (partX ws gap l i k) i k (pairX ws gap l i k)) k i (pairX ws gap l i k) = partX ws gap l i (k + 1) := by
  funext a b; unfold updC partX
  by_cases h1 : a = k ∧ b = i
  · rw [if_pos h1, if_pos (by omega), h1.1, h1.2]; unfold tabX; rw [if_neg (by omega), pairX_comm]
  · rw [if_neg h1]
    by_cases h2 : a = i ∧ b = k
    · rw [if_pos h2, if_pos (by omega), h2.1, h2.2]; unfold tabX; rw [if_neg (by omega)]
    · rw [if_neg h2]
      by_cases h3 : (a < i ∧ b < i) ∨ (a = i ∧ b < k) ∨ (b = i ∧ a < k)
      · rw [if_pos h3, if_pos (by omega)]
      · rw [if_neg h3, if_neg (by omega)]
theorem partX_same (ws : List Int) (gap : Int) (l : List FD) (i k : Nat) (h : pairX ws gap l i k = (0, 0)) : partX ws gap l i (k + 1) = partX ws gap l i k := by
  funext a b; unfold partX
  by_cases h1 : (a < i ∧ b < i) ∨ (a = i ∧ b < k) ∨ (b = i ∧ a < k)
  · rw [if_pos h1, if_pos (by omega)]
  · rw [if_neg h1]
    by_cases h2 : (a = i ∧ b = k) ∨ (b = i ∧ a = k)
    · rw [if_pos (by omega)]; unfold tabX
      split
      · rfl
      · rcases h2 with ⟨rfl, rfl⟩ | ⟨rfl, rfl⟩
        · exact h
        · rw [pairX_comm]; exact h
    · rw [if_neg (by omega)]
theorem partX_skip (ws : List Int) (gap : Int) (l : List FD) (i : Nat) (h : ∀ k, pairX ws gap l i k = (0, 0)) : partX ws gap l (i + 1) 0 = partX ws gap l i 0 := by
  rw [partX_next]
  have : ∀ d, partX ws gap l i d = partX ws gap l i 0 := fun d => by
    induction d with
    | zero => rfl
    | succ d ih => rw [partX_same ws gap l i d (h d), ih]
  exact this i
theorem pairX_none (ws : List Int) (gap : Int) (l : List FD) (i k : Nat) (h : ∀ x, l[i]? = some x → x.has = false) : pairX ws gap l i k = (0, 0) := by
  unfold pairX
  cases hi : l[i]? with
  | none => rfl
  | some x =>
    cases l[k]? with
    | none => rfl
    | some y => dsimp only; rw [h x hi]; rfl
theorem partX_all (ws : List Int) (gap : Int) (l : List FD) : partX ws gap l l.length 0 = tabX ws gap l := by
  funext a b; unfold partX
  by_cases h : a < l.length ∧ b < l.length
  · rw [if_pos (by omega)]
  · rw [if_neg (by omega)]; unfold tabX
    split
    · rfl
    · unfold pairX
      by_cases h1 : a < l.length
      · rw [List.getElem?_eq_none (show l.length ≤ b by omega)]
        cases l[a]? <;> rfl
      · rw [List.getElem?_eq_none (show l.length ≤ a by omega)]
theorem pairX_at (ws : List Int) (gap : Int) (l : List FD) (i k : Nat) (hi : i < l.length) (hk : k < l.length) (h1 : l[i].has = true) (h2 : l[k].has = true) : pairX ws gap l i k = (rst (dC ws gap) gap l[i].w.w l[k].w.w, ((l[i].w.w.length + l[k].w.w.length : Nat) : Int)) := by
  unfold pairX
  rw [List.getElem?_eq_getElem hi, List.getElem?_eq_getElem hk]
  dsimp only; rw [h1, h2]; rfl
theorem pairX_small {ws : List Int} {gap : Int} {l : List FD} (hc : checkC ws gap = 0) (hw : ∀ f ∈ l, checkW f.w.w = 0) (i k : Nat) : 0 ≤ (pairX ws gap l i k).1 ∧ (pairX ws gap l i k).1 ≤ 1073741824 * 64 ∧ 0 ≤ (pairX ws gap l i k).2 ∧ (pairX ws gap l i k).2 ≤ 64 := by
  unfold pairX
  split
  · rename_i x y hx hy
    split
    · have a1 := checkE_two (checkE_pair hc (hw x (List.mem_of_getElem? hx)) (hw y (List.mem_of_getElem? hy)))
      have b1 := RA_bound hc a1.2.1.1 a1.2.2.1 0 0
      exact ⟨b1.1, b1.2, by dsimp only; omega, by have := a1.2.1.1; have := a1.2.2.1; dsimp only; omega⟩
    · decide
  · decide
theorem tabX_small {ws : List Int} {gap : Int} {l : List FD} (hc : checkC ws gap = 0) (hw : ∀ f ∈ l, checkW f.w.w = 0) (i k : Nat) : 0 ≤ (tabX ws gap l i k).1 ∧ (tabX ws gap l i k).1 ≤ 1073741824 * 64 ∧ 0 ≤ (tabX ws gap l i k).2 ∧ (tabX ws gap l i k).2 ≤ 64 := by
  unfold tabX
  split
  · decide
  · exact pairX_small hc hw i k
theorem aloneL_len (h : List Bool) : (aloneL h).length = h.length := by simp [aloneL]
theorem aloneL_at (h : List Bool) (i : Nat) (hi : i < h.length) : (aloneL h)[i]'(by rw [aloneL_len]; exact hi) = if h[i] then (i : Int) else -1 := by simp [aloneL]
theorem off2 (i k : Nat) : (((1 : Int) + (i : Int) * ((32 : Nat) : Int)) + (k : Int) * ((2 : Nat) : Int)).toNat = 1 + i * 32 + k * 2 := by omega
theorem take_snoc {α : Type} (l : List α) (i : Nat) (h : i < l.length) : l.take (i + 1) = l.take i ++ [l[i]] := List.take_succ_eq_append_getElem h
theorem elI : El Tryd.prog 30 3 1 8 := El.of (by kernel_rfl)
structure ClM (m : Mem) (xb : Nat) (q : Option Addr) (cq n : Nat) (lab : List Int) (f : Nat → Nat → Int × Int) (gap : Int) : Prop where
  x : m xb = some (.cells (ccells (slv q n cq) f gap).toArray 99 (0, 0))
  row : Row m 3 1 q cq n (intsL lab)
  ne : ∀ g, q = some ⟨g, 0, none⟩ → g ≠ xb
theorem c_apart (p : Option Addr) (cp : Nat) (l : List FD) (pc : Option Addr) (cc : Nat) (ws : List Int) (gap : Int) (hcp : l.length ≤ cp) (hl : l.length ≤ 16) (hok : ∀ f ∈ l, Wok f.w.w) (hc : checkC ws gap = 0) (hw : ∀ f ∈ l, checkW f.w.w = 0) :
    FnM Tryd.prog n_cognates_apart [slv p l.length cp, costs pc ws.length cc gap] (fun R => FormsAt R p l ∧ CostsAt R pc ws ∧ TabOk R) fun v mq _ => ∃ xb q cq, v = .tuple #[.pointer (some ⟨xb, 0, none⟩), .int .i64 0] ∧ ClM mq xb q cq l.length (aloneL (l.map (·.has))) (tabX ws gap l) gap := by
  have hal : (aloneL (l.map (·.has))).length = l.length := by rw [aloneL_len, List.length_map]
  refine FnM.of S_cognates_apart mx [.p p, .i l.length, .i cp, .p pc, .i ws.length, .i cc, .i gap] rfl rfl fun c hp => .alloc fun b0 => .allocc fun xb hx1 hx2 hx3 => ?_
  have hstart : SV.dens [b0] [.p p, .i l.length, .i cp, .p pc, .i ws.length, .i cc, .i gap] ([(.cst (.slice none 0 0))] ++ List.replicate 512 (.int .i64 (.lit 0)) ++ [(.int .i64 (.var 6))]) = ccells (slv none 0 0) (fun _ _ => (0, 0)) gap := by
    rw [ccells_zero, dens_append, dens_append, dens_replicate]; rfl
  refine .chk (by ((try simp only [evE, liE, lO, lU, snd]); (try simp only [cmE])); omega) (.loop (fun n us m => ∃ (i : Nat) (pp : Option Addr) (ee : Int) (q : Option Addr) (cq : Nat), i ≤ l.length ∧ n = l.length - i ∧ us = [.p pp, .i ee, .i i] ∧ ClM m xb q cq i ((aloneL (l.map (·.has))).take i) (partX ws gap l i 0) gap) l.length ⟨0, none, 0, none, 0, Nat.zero_le _, rfl, rfl, ⟨?_, Row.nil _ _ _, fun g h => by cases h⟩⟩ ?_)
  · rw [Mem.upd_same, partX_zero, ← hstart]; rfl
  rintro n us m _ ⟨i, pp, ee, q, cq, hi, rfl, rfl, hM⟩
  refine .env (by (try simp only [liE, lO, lU, snd, aN]); rfl) (.ite (fun h1 => ?_) (fun h1 => ?_)) <;> ((try simp only [evE, liE, lO, lU, snd] at h1); (try simp only [cmE] at h1))
  · have hi : i < l.length := by omega
    have hai : i < (aloneL (l.map (·.has))).length := by omega
    have hal2 := aloneL_at (l.map (·.has)) i (by rw [List.length_map]; exact hi)
    rw [List.getElem_map] at hal2
    refine .loadFD l i hi (fun g => hp.1.1.mono g.R) (.alloc fun b2 => .env (by (try simp only [liE, lO, lU, snd, aN]); rfl) (.ite (fun h2 => ?_) (fun h2 => ?_)))
    · replace h2 : (!l[i].has) = true := h2
      have h2' : l[i].has = false := by simpa using h2
      rw [h2', if_neg (by simp)] at hal2
      refine .chk rfl (.chk rfl (.loadS (ccells (slv q i cq) (partX ws gap l i 0) gap) 0 q i cq rfl rfl (fun g => cells_of_mem g hM.x) (.alloc fun b3 => .env (by (try simp only [liE, lO, lU, snd, aN]); rfl) (.append (q := q) (cap := cq) (n := i) (qx := some ⟨b3, 0, none⟩) (kx := 1) (capx := 1) (news := [.int .i64 (-1)]) elI hM.row (fun g => g.cells (j := 2) rfl rfl rfl) (by simp) (by simp [Value.oneCell']) (fun h => by cases h) (by simp [maxLen]; omega) (by omega) (fun q' cq' m' hr' hk' hq' => ?_)))))
      have hx' : m' xb = m xb := hk' xb (fun ⟨o, ho⟩ => by
        rcases hM.row.2 with ⟨e, _⟩ | ⟨g, _, e, _⟩
        · rw [e] at ho; cases ho
        · rw [e] at ho; cases ho; exact absurd rfl (hM.ne _ e)) (by rw [hM.x]; simp)
      have hne' : ∀ g, q' = some ⟨g, 0, none⟩ → g ≠ xb := fun g hg => by
        rcases hq' with e | ⟨g', e, h⟩
        · exact hM.ne g (e ▸ hg)
        · rw [hg] at e; cases e; rintro rfl; rw [hM.x] at h; cases h
      refine .env (by (try simp only [liE, lO, lU, snd, aN]); rfl) (.chk rfl (.chk rfl (.store xb 0 _ 99 rfl rfl (hx'.trans hM.x) (by show 0 + 1 ≤ _; rw [List.size_toArray, ccells_len]; omega) ?_)))
      refine .again rfl ⟨l.length - (i + 1), by omega, i + 1, pp, ee, q', cq', by omega, rfl, ?_, ⟨?_, ?_, hne'⟩⟩
      · (simp only [evE, liE, lO, lU, snd, Sh.uss, Sh.us, atAddr, map_add0, List.append_nil]); rw [add_i64 i (by omega)]
      · rw [Mem.upd_same, partX_skip ws gap l i fun k => pairX_none ws gap l i k fun x hx => by rw [List.getElem?_eq_getElem hi] at hx; cases hx; exact h2']
        show some (Obj.cells (putAt (ccells (slv q i cq) (partX ws gap l i 0) gap).toArray.toList 0 [slv q' (i + 1) cq']).toArray _ _) = _
        rw [List.toList_toArray, ccells_putL]
      · rw [take_snoc _ i hai, hal2, intsL, List.map_append]
        exact hr'.keep fun g hg _ => Mem.upd_other _ _ (hne' g hg)
    · replace h2 : (!l[i].has) = false := h2
      have h2' : l[i].has = true := by simpa using h2
      rw [h2', if_pos rfl] at hal2
      refine .chk rfl (.chk rfl (.loadS (ccells (slv q i cq) (partX ws gap l i 0) gap) 0 q i cq rfl rfl (fun g => cells_of_mem g hM.x) (.alloc fun b3 => .env (by (try simp only [liE, lO, lU, snd, aN]); rfl) (.append (q := q) (cap := cq) (n := i) (qx := some ⟨b3, 0, none⟩) (kx := 1) (capx := 1) (news := [.int .i64 i]) elI hM.row (fun g => g.cells (j := 2) rfl rfl rfl) (by simp) (by simp [Value.oneCell']) (fun h => by cases h) (by simp [maxLen]; omega) (by omega) (fun q' cq' m' hr' hk' hq' => ?_)))))
      have hx' : m' xb = m xb := hk' xb (fun ⟨o, ho⟩ => by
        rcases hM.row.2 with ⟨e, _⟩ | ⟨g, _, e, _⟩
        · rw [e] at ho; cases ho
        · rw [e] at ho; cases ho; exact absurd rfl (hM.ne _ e)) (by rw [hM.x]; simp)
      have hne' : ∀ g, q' = some ⟨g, 0, none⟩ → g ≠ xb := fun g hg => by
        rcases hq' with e | ⟨g', e, h⟩
        · exact hM.ne g (e ▸ hg)
        · rw [hg] at e; cases e; rintro rfl; rw [hM.x] at h; cases h
      refine .env (by (try simp only [liE, lO, lU, snd, aN]); rfl) (.chk rfl (.chk rfl (.store xb 0 _ 99 rfl rfl (hx'.trans hM.x) (by show 0 + 1 ≤ _; rw [List.size_toArray, ccells_len]; omega) ?_)))
      have hM2 : ClM (m'.upd xb (.cells (putAt (ccells (slv q i cq) (partX ws gap l i 0) gap).toArray.toList 0 [slv q' (i + 1) cq']).toArray 99 (0, 0))) xb q' cq' (i + 1) ((aloneL (l.map (·.has))).take (i + 1)) (partX ws gap l i 0) gap := ⟨by
        rw [Mem.upd_same, List.toList_toArray, ccells_putL], by
        rw [take_snoc _ i hai, hal2, intsL, List.map_append]
        exact hr'.keep fun g hg _ => Mem.upd_other _ _ (hne' g hg), hne'⟩
      refine .chk (by ((try simp only [evE, liE, lO, lU, snd]); (try simp only [cmE])); simp; omega) (.chk (by ((try simp only [evE, liE, lO, lU, snd]); (try simp only [cmE])); omega) (.loop (fun n us m => ∃ (k : Nat) (pp : Option Addr) (ee : Int), k ≤ i ∧ n = i - k ∧ us = [.p pp, .i ee, .i k] ∧ ClM m xb q' cq' (i + 1) ((aloneL (l.map (·.has))).take (i + 1)) (partX ws gap l i k) gap) i ⟨0, pp, ee, Nat.zero_le _, rfl, ?_, hM2⟩ ?_))
      · (simp only [evE, liE, lO, lU, snd, Sh.uss, Sh.us, atAddr, map_add0, List.append_nil]); rfl
      rintro n us m3 _ ⟨k, pp, ee, hk, rfl, rfl, hM3⟩
      refine .env (by (try simp only [liE, lO, lU, snd, aN]); rfl) (.ite (fun h3 => ?_) (fun h3 => ?_)) <;> ((try simp only [evE, liE, lO, lU, snd] at h3); (try simp only [cmE] at h3))
      · have hk : k < i := by omega
        have hkl : k < l.length := by omega
        have hf := fcells_at l k hkl
        refine .chk ?_ (.loadC [.b l[k].has, .p l[k].w.p, .i l[k].w.w.length, .i l[k].w.cap] p (fcells l) (k * 2) rfl ?_ rfl (fun g => hp.1.1.mono g.R) (by rw [fcells_len]; omega) (fun q v hv => ?_) (.alloc fun b4 => .env (by (try simp only [liE, lO, lU, snd, aN]); rfl) (.ite (fun h4 => ?_) (fun h4 => ?_))))
        · obtain ⟨pb, po, hpe⟩ : ∃ b o, p = some ⟨b, o, none⟩ := by
            obtain ⟨b, o, hpe, _⟩ := hp.1.1 (k * 2) _ hf.1
            exact ⟨b, o, hpe⟩
          subst hpe
          ((try simp only [evE, liE, lO, lU, snd]); (try simp only [cmE])); simp [pick_and]; omega
        · show ((if (cp : Int) = 0 then (0 : Int) else 0) + (k : Int) * ((2 : Nat) : Int)) = _
          split <;> omega
        · rw [form_at] at hv
          match q, hv with
          | 0, hv => simp at hv; rw [← hv]; exact hf.1
          | 1, hv => simp at hv; rw [← hv]; exact hf.2
          | q + 2, hv => simp at hv
        · replace h4 : (!l[k].has) = true := h4
          refine .again rfl ⟨i - (k + 1), by omega, k + 1, pp, ee, by omega, rfl, ?_, ?_⟩
          · (simp only [evE, liE, lO, lU, snd, Sh.uss, Sh.us, atAddr, map_add0, List.append_nil]); rw [add_i64 k (by omega)]
          · rw [partX_same ws gap l i k (by rw [pairX_comm]; exact pairX_none ws gap l k i fun x hx => by rw [List.getElem?_eq_getElem hkl] at hx; cases hx; simpa using h4)]
            exact hM3
        · replace h4 : (!l[k].has) = false := h4
          have h4' : l[k].has = true := by simpa using h4
          have hX := pairX_at ws gap l i k hi hkl h2' h4'
          have hXs := pairX_small hc hw i k
          have wi := hw _ (List.getElem_mem hi)
          have wk := hw _ (List.getElem_mem hkl)
          have hce := checkE_pair hc wi wk
          have h32 := checkE_two hce
          have l1 := h32.2.1.1
          have l2 := h32.2.2.1
          have hde : distE ws gap l[i].w.w l[k].w.w = ((pairX ws gap l i k).1, 0) := by
            unfold distE; rw [if_neg (by simp [hce]), hX]; rfl
          have hsnd : (pairX ws gap l i k).2 = (l[i].w.w.length : Int) + (l[k].w.w.length : Int) := by rw [hX]; push_cast; rfl
          have hcall := c_editDist l[i].w l[k].w pc cc ws gap (hok _ (List.getElem_mem hi)) (hok _ (List.getElem_mem hkl))
          rw [hde] at hcall
          refine .callV hcall (fun g => ⟨(hp.1.2 _ (List.getElem_mem hi)).mono g.R, (hp.1.2 _ (List.getElem_mem hkl)).mono g.R, hp.2.1.mono g.R, hp.2.2.mono g.R⟩) (.env (by (try simp only [liE, lO, lU, snd, aN]); rfl) (.no rfl (.chk (by ((try simp only [evE, liE, lO, lU, snd]); (try simp only [cmE])); omega) (.chk (by ((try simp only [evE, liE, lO, lU, snd]); (try simp only [cmE])); omega) (.alloc fun b5 => .chk rfl (.chk rfl (.chk (by ((try simp only [evE, liE, lO, lU, snd]); (try simp only [cmE])); simp; omega) (.chk (by ((try simp only [evE, liE, lO, lU, snd]); (try simp only [cmE])); simp; omega) (.chk rfl (.chk rfl (.chk (by ((try simp only [evE, liE, lO, lU, snd]); (try simp only [cmE])); simp; omega) ?_)))))))))))
          have hadd : ar .add .i64 (l[i].w.w.length : Int) (l[k].w.w.length : Int) = (pairX ws gap l i k).2 := by rw [hsnd]; exact addI (by omega) (by omega)
          refine .store xb (1 + i * 32 + k * 2) _ 99 rfl ?_ hM3.x (by show _ + 2 ≤ _; rw [List.size_toArray, ccells_len]; omega) ?_
          · simp only [atAddr, IT.eval, Env.int, Env.ptr, List.getElem?_cons_succ, List.getElem?_cons_zero, Option.map_some, addr_add]
            rw [off2, Nat.zero_add]
          refine .chk (by ((try simp only [evE, liE, lO, lU, snd]); (try simp only [cmE])); simp; omega) ?_
          refine .store xb (1 + k * 32 + i * 2) (ccells (slv q' (i + 1) cq') (updC (partX ws gap l i k) i k (pairX ws gap l i k)) gap).toArray 99 rfl ?_ ?_ (by show _ + 2 ≤ _; rw [List.size_toArray, ccells_len]; omega) ?_
          · simp only [atAddr, IT.eval, Env.int, Env.ptr, List.getElem?_cons_succ, List.getElem?_cons_zero, Option.map_some, addr_add]
            rw [off2, Nat.zero_add]
          · rw [← ccells_put _ _ _ i k (pairX ws gap l i k) (by omega) (by omega)]
            show (if xb = xb then _ else _) = _
            rw [if_pos rfl]
            show some (Obj.cells (putAt (ccells (slv q' (i + 1) cq') (partX ws gap l i k) gap) (1 + i * 32 + k * 2) [.int .i64 (pairX ws gap l i k).1, .int .i64 (ar .add .i64 (l[i].w.w.length : Int) (l[k].w.w.length : Int))]).toArray _ _) = _
            rw [hadd]
          · refine .again rfl ⟨i - (k + 1), by omega, k + 1, pp, ee, by omega, rfl, ?_, ?_⟩
            · (simp only [evE, liE, lO, lU, snd, Sh.uss, Sh.us, atAddr, map_add0, List.append_nil]); rw [add_i64 k (by omega)]
            · refine ⟨?_, hM3.row.keep fun g hg _ => (Mem.upd_other _ _ (hM3.ne g hg)).trans (Mem.upd_other _ _ (hM3.ne g hg)), hM3.ne⟩
              rw [Mem.upd_same]
              show some (Obj.cells (putAt (ccells (slv q' (i + 1) cq') (updC (partX ws gap l i k) i k (pairX ws gap l i k)) gap).toArray.toList (1 + k * 32 + i * 2) [.int .i64 (pairX ws gap l i k).1, .int .i64 (ar .add .i64 (l[i].w.w.length : Int) (l[k].w.w.length : Int))]).toArray _ _) = _
              rw [hadd, List.toList_toArray, ccells_put _ _ _ k i (pairX ws gap l i k) (by omega) (by omega), partX_step ws gap l i k hk]
      · have : k = i := by omega
        subst this
        refine .again rfl ⟨l.length - (k + 1), by omega, k + 1, pp, ee, q', cq', by omega, rfl, ?_, ?_⟩
        · (simp only [evE, liE, lO, lU, snd, Sh.uss, Sh.us, atAddr, map_add0, List.append_nil]); rw [add_i64 k (by omega)]
        · rw [partX_next]; exact hM3
  · have : i = l.length := by omega
    subst this
    refine .ret rfl ⟨xb, q, cq, rfl, ?_⟩
    rw [List.take_of_length_le (by omega), partX_all] at hM
    exact hM
end Go.Proofs.YthabfpagilbplaaDoor
/- Rows of numbers; Clone; numbers changed in place. -/
namespace Go.Sy
open Go Go.RowKit
theorem run_slnil {P : Program} {t e ty : TypeId} {x y : Operand} {z : TypeId} {q : Option Addr} {n cap : Nat} {w : World} (h : P.underlying t = some (.slice e)) : (XOp.sem (.binOp .eql t x y z) ty [slv q n cap, .slice none 0 0]).run P w = .ok (.value (.bool q.isNone)) w := by
  show (do pure (Next.value (← (do eqGuard .eql t x y (slv q n cap) (.slice none 0 0); binOp .eql t (slv q n cap) (.slice none 0 0)))) : Sem Next).run P w = _
  have h1 : (eqGuard .eql t x y (slv q n cap) (.slice none 0 0)).run P w = .ok () w := by cases q <;> rfl
  have h2 : (binOp .eql t (slv q n cap) (.slice none 0 0)).run P w = .ok (.bool q.isNone) w := by
    rw [show slv q n cap = Value.slice q n cap by cases q <;> rfl]
    simp only [binOp]
    simp [Op.equal, Op.maxDepth, Lib.run_equalIn_slice_nil w 9999 t e q n cap 0 0 h]
  simp only [Sem.run_bind, h1, Result.andThen_ok, h2]
  rfl
section
variable {P : Program} {c : Cx} {L : List Nat} {ρ : Env} {blks : List Blk} {m : Mem} {R : Value → HW → Prop} {Dn : Nat → List U → HW → Prop} {A : List (List U → HW → Prop)}
theorem DenM.isNil {t e ty : TypeId} {x y : Operand} {z : TypeId} {sv : SV} {k : Tree} (q : Option Addr) (n cap : Nat) (h : P.underlying t = some (.slice e)) (hk : DenM P R Dn k L (ρ ++ [.b q.isNone]) c m A) (hv : sv.den L ρ = slv q n cap := by rfl) : DenM P R Dn (.extp ⟨.binOp .eql t x y z, ty, [sv, .cst (.slice none 0 0)]⟩ .bool blks k) L ρ c m A := .extp [.b q.isNone] ⟨_, rfl⟩ (fun g w hw => by
  have e1 := getElem_env ρ [.b q.isNone] 0
  rw [Nat.add_zero] at e1
  simp only [SV.dens, Sh.fresh, SV.den, BT.eval, Env.bool]
  rw [hv, e1]
  exact run_slnil h) hk
end
theorem cap0_of {m : Mem} {e : TypeId} {size : Nat} {q : Option Addr} {cap n : Nat} {xs : List Value} (h : Row m e size q cap n xs) (hq : q = none) : cap = 0 := by
  rcases h.2 with ⟨_, _, h⟩ | ⟨g, _, h, _⟩
  · exact h
  · rw [h] at hq; cases hq
theorem join_old {m mq : Mem} {b : Nat} (h : m b ≠ none) : m.join mq b = m b := by
  unfold Mem.join
  cases h' : m b with
  | none => exact absurd h' h
  | some o => rfl
theorem join_new {m mq : Mem} {b : Nat} (h : m b = none) : m.join mq b = mq b := by unfold Mem.join; rw [h]
def Mem.mv (m : Mem) : Mv := Mv.on ⟨fun _ _ => none, fun _ => none⟩ m
theorem Mem.mv_le {c : Cx} {L : List Nat} {ρ : Env} {blks : List Blk} {m m' : Mem} {w : World} (h : ∀ b o, m b = some o → m' b = some o) (hw : Wd L ρ blks (c.hw m') w) : m.mv.le (Mv.of w) := by
  refine ⟨fun b o v hv => ?_, fun b es hv => ?_⟩
  · unfold Mem.mv at hv
    rw [Mv.on_c] at hv
    cases hb : m b with
    | none => rw [hb] at hv; cases hv
    | some ob =>
      have := hw.hold.2 _ _ (h _ _ hb)
      rw [hb] at hv
      show w.cell? ⟨b, o, none⟩ = _
      cases ob with
      | cells cs e fr =>
        simp only [World.cell?, this]
        simpa using hv
      | _ => cases hv
  · unfold Mem.mv at hv
    rw [Mv.on_m] at hv
    cases hb : m b with
    | none => rw [hb] at hv; cases hv
    | some ob =>
      rw [hb] at hv
      cases ob with
      | map es' k => cases hv; exact Mv.of_m.2 ⟨k, hw.hold.2 _ _ (h _ _ hb)⟩
      | _ => cases hv
theorem Mem.mv_row {m : Mem} {e : TypeId} {size : Nat} {q : Option Addr} {cap n : Nat} {xs : List Value} (h : Row m e size q cap n xs) : Cells m.mv q xs := h.cells fun g cur hg o => by
  unfold Mem.mv; rw [Mv.on_c, hg]
theorem Mem.mv_cells {m : Mem} {b : Nat} {xs : List Value} {e : TypeId} (h : m b = some (.cells xs.toArray e (0, 0))) : Cells m.mv (some ⟨b, 0, none⟩) xs := fun i x hx => ⟨b, 0, rfl, by
  unfold Mem.mv; rw [Mv.on_c, h]; simpa using hx⟩
theorem Cells.head {V : Mv} {p : Option Addr} {x : Value} {xs : List Value} (h : Cells V p (x :: xs)) : Cells V p [x] := fun i y hy => by
  cases i with
  | zero => exact h 0 y hy
  | succ i => simp at hy
def mixL (f : Int → Int) (l : List Int) (i : Nat) : List Int := (l.take i).map f ++ l.drop i
theorem mixL_zero (f : Int → Int) (l : List Int) : mixL f l 0 = l := by simp [mixL]
theorem mixL_len (f : Int → Int) (l : List Int) (i : Nat) : (mixL f l i).length = l.length := by simp [mixL]; omega
theorem mixL_all (f : Int → Int) (l : List Int) : mixL f l l.length = l.map f := by simp [mixL]
theorem mixL_at (f : Int → Int) (l : List Int) (i : Nat) (h : i < l.length) : labAt (mixL f l i) i = labAt l i := by
  unfold labAt mixL
  rw [List.getElem?_append_right (by simp; omega), List.getElem?_drop]
  congr 2; simp; omega
theorem mixL_set (f : Int → Int) (l : List Int) (i : Nat) (h : i < l.length) : (mixL f l i).set i (f (labAt l i)) = mixL f l (i + 1) := by
  unfold mixL labAt
  have e : ((l.take i).map f).length = i := by simp; omega
  rw [List.set_append, if_neg (by omega), e, Nat.sub_self, List.drop_eq_getElem_cons h, List.take_succ_eq_append_getElem h, List.getElem?_eq_getElem h]
  simp only [Option.getD_some, List.map_append, List.map_cons, List.map_nil, List.append_assoc, List.singleton_append, List.set_cons_zero]
theorem mixL_same (f : Int → Int) (l : List Int) (i : Nat) (h : i < l.length) (hf : f (labAt l i) = labAt l i) : mixL f l (i + 1) = mixL f l i := by
  rw [← mixL_set f l i h, hf]
  apply List.ext_getElem?
  intro t
  rw [List.getElem?_set]
  split
  · rename_i e
    subst e
    rw [mixL_len, if_pos h, ← mixL_at f l i h]
    unfold labAt
    rw [List.getElem?_eq_getElem (by rw [mixL_len]; exact h)]; rfl
  · rfl
theorem intsL_set (l : List Int) (i : Nat) (x : Int) : (intsL l).set i (.int .i64 x) = intsL (l.set i x) := by unfold intsL; rw [List.map_set]
theorem intsL_one (l : List Int) : ∀ u ∈ intsL l, u.oneCell' = true := fun u hu => by
  obtain ⟨x, _, rfl⟩ := List.mem_map.1 hu; rfl
end Go.Sy
namespace Go.Proofs.YthabfpagilbplaaDoor
open Go Go.Sy Go.RowKit
structure RowI (m : Mem) (q : Option Addr) (cq : Nat) (l : List Int) : Prop where
  row : l ≠ [] → Row m 3 1 q cq l.length (intsL l)
  nil : q = none → cq = 0
  le : l.length ≤ cq
theorem RowI.of {m : Mem} {q : Option Addr} {cq : Nat} {l : List Int} (h : Row m 3 1 q cq l.length (intsL l)) : RowI m q cq l := ⟨fun _ => h, cap0_of h, h.cap_le⟩
theorem RowI.keep {m m' : Mem} {q : Option Addr} {cq : Nat} {l : List Int} (h : RowI m q cq l) (hk : ∀ g, q = some ⟨g, 0, none⟩ → m g ≠ none → m' g = m g) : RowI m' q cq l := ⟨fun hl => (h.row hl).keep hk, h.nil, h.le⟩
theorem RowI.joinR {m mq : Mem} {q : Option Addr} {cq : Nat} {l : List Int} (h : RowI mq q cq l) (hf : ∀ b, mq b ≠ none → m b = none) : RowI (m.join mq) q cq l := h.keep fun g _ hg => join_new (hf g hg)
theorem RowI.joinL {m mq : Mem} {q : Option Addr} {cq : Nat} {l : List Int} (h : RowI m q cq l) : RowI (m.join mq) q cq l := h.keep fun g _ hg => join_old hg
theorem RowI.empty (m : Mem) : RowI m none 0 [] := ⟨fun h => absurd rfl h, fun _ => rfl, Nat.le_refl _⟩
theorem RowI.reads {m : Mem} {q : Option Addr} {cq : Nat} {l : List Int} (h : RowI m q cq l) {c : Cx} {L : List Nat} {ρ : Env} {blks : List Blk} (g : Go.Sy.Good c L m) : Cells (vw c L ρ blks m) q (intsL l) := by
  by_cases hl : l = []
  · subst hl; intro i x hx; simp [intsL] at hx
  · exact (h.row hl).reads g
theorem c_cloneI (q : Option Addr) (cq : Nat) (l : List Int) (hle : l.length ≤ cq) (hnil : q = none → cq = 0) (hl : l.length < 2 ^ 40) : FnM Tryd.prog n_slices_Clone___int_int_ [slv q l.length cq] (fun R => Cells R q (intsL l)) fun v mq _ => ∃ q' cq', v = slv q' l.length cq' ∧ RowI mq q' cq' l := by
  refine FnM.of S_slices_Clone___int_int_ mx [.p q, .i l.length, .i cq] rfl rfl fun c hp => .isNil q l.length cq (e := 3) (by kernel_rfl) (.env (by (try simp only [liE, lO, lU, snd, aN]); rfl) (.ite (fun h1 => .ret rfl ?_) (fun h1 => .alloc fun b0 => ?_)))
  · replace h1 : q.isNone = true := h1
    have h2 := hnil (by simpa using h1)
    have : l = [] := List.length_eq_zero_iff.1 (by omega)
    rw [this]
    exact ⟨none, 0, rfl, .empty _⟩
  · refine .appendLit (b0 := b0) (qx := q) (kx := l.length) (capx := cq) (news := intsL l) elI (fun g => hp.mono g.R) (by rw [intsL_len, Nat.mul_one]) (intsL_one _) hnil (by simp [maxLen]; omega) (by omega) (fun q1 k1 m1 hr1 h01 _ => .env (by (try simp only [liE, lO, lU, snd, aN]); rfl) (.ret rfl ⟨q1, k1, rfl, fun hne => ?_, fun hq => ?_, ?_⟩))
    · exact hr1 fun h => hne (List.length_eq_zero_iff.1 h)
    · by_cases h : l.length = 0
      · exact (h01 h).2
      · exact cap0_of (hr1 h) hq
    · by_cases h : l.length = 0
      · omega
      · exact (hr1 h).cap_le
end Go.Proofs.YthabfpagilbplaaDoor
/- Chapter 19: Labels. -/
namespace Go.Proofs.YthabfpagilbplaaDoor
open Go Go.Sy Go.RowKit
def pairN (n t : Nat) : Nat × Nat := (t / n, t % n)
def nearB (ws : List Int) (gap : Int) (l : List FD) (N D : Int) (i k : Nat) : Bool := leF (ratC gap (tabX ws gap l i k)) (N, D)
def labels0 (ws : List Int) (gap : Int) (l : List FD) (N D : Int) (k : Nat) : List Int := ((((pairsN (aloneL (l.map (·.has)))).take k).map (pairN l.length))).foldl (stepL (nearB ws gap l N D)) (aloneL (l.map (·.has)))
def labelsE (ws : List Int) (gap : Int) (l : List FD) (N D : Int) : List Int × Int := if check19 ws gap l N D ≠ 0 then ([], check19 ws gap l N D) else (labels0 ws gap l N D (pairsN (aloneL (l.map (·.has)))).length, 0)
theorem stepL_len (near : Nat → Nat → Bool) (l : List Int) (e : Nat × Nat) : (stepL near l e).length = l.length := by
  unfold stepL; split
  · exact uniteL_len _ _ _
  · rfl
theorem foldL_len (near : Nat → Nat → Bool) (es : List (Nat × Nat)) (l : List Int) : (es.foldl (stepL near) l).length = l.length := by
  induction es generalizing l with
  | nil => rfl
  | cons e es ih => rw [List.foldl_cons, ih, stepL_len]
theorem labels0_len (ws : List Int) (gap : Int) (l : List FD) (N D : Int) (k : Nat) : (labels0 ws gap l N D k).length = l.length := by
  unfold labels0; rw [foldL_len, aloneL_len, List.length_map]
theorem labels0_succ (ws : List Int) (gap : Int) (l : List FD) (N D : Int) (k t : Nat) (h : (pairsN (aloneL (l.map (·.has))))[k]? = some t) : labels0 ws gap l N D (k + 1) = stepL (nearB ws gap l N D) (labels0 ws gap l N D k) (t / l.length, t % l.length) := by
  obtain ⟨hk, he⟩ := List.getElem?_eq_some_iff.1 h
  unfold labels0
  rw [take_snoc _ k hk, he, List.map_append, List.foldl_append]; rfl
theorem check19_ok {ws : List Int} {gap : Int} {l : List FD} {N D : Int} (h : check19 ws gap l N D = 0) : checkC ws gap = 0 ∧ l.length ≤ 16 ∧ (∀ f ∈ l, checkW f.w.w = 0) ∧ limB N D = true := by
  unfold check19 at h
  split at h
  · simp at h
  · split at h
    · simp at h
    · split at h
      · simp at h
      · split at h
        · rename_i h1 _ _ h2; exact absurd h h2
        · rename_i h1 h2 _ h3
          split at h
          · rename_i h4
            refine ⟨by simpa using h1, by omega, fun f hf => ?_, h4⟩
            have := checkL_zero (by simpa using h3) 
            exact this _ (List.mem_map.2 ⟨f, hf, rfl⟩)
          · simp at h
theorem pairsN_mem {lab : List Int} {k t : Nat} (h : (pairsN lab)[k]? = some t) : t / lab.length < lab.length ∧ t % lab.length < lab.length ∧ t / lab.length < t % lab.length ∧ labAt lab (t / lab.length) = ((t / lab.length : Nat) : Int) ∧ labAt lab (t % lab.length) = ((t % lab.length : Nat) : Int) := by
  have hm := List.mem_of_getElem? h
  unfold pairsN at hm
  rw [List.mem_filter, List.mem_range] at hm
  obtain ⟨h1, h2⟩ := hm
  simp only [okP, Bool.and_eq_true, decide_eq_true_iff, beq_iff_eq] at h2
  have hpos : 0 < lab.length := by
    rcases Nat.eq_zero_or_pos lab.length with e | e
    · rw [e] at h1; omega
    · exact e
  exact ⟨Nat.div_lt_of_lt_mul h1, Nat.mod_lt _ hpos, h2.1.1, h2.1.2, h2.2⟩
theorem tab_small {ws : List Int} {gap : Int} {l : List FD} (hc : checkC ws gap = 0) (hw : ∀ f ∈ l, checkW f.w.w = 0) (i k : Nat) : Small (tabX ws gap l i k) gap := by
  have h := tabX_small hc hw i k
  have hg := checkC_zero hc
  exact ⟨h.1, by omega, h.2.2.1, by omega, hg.2.1, hg.2.2.1⟩
theorem c_Labels (p : Option Addr) (cp : Nat) (l : List FD) (pc : Option Addr) (cc : Nat) (ws : List Int) (gap N D : Int) (hcp : l.length ≤ cp) (hl : l.length < 2 ^ 63) (hok : ∀ f ∈ l, Wok f.w.w) (hN : N < 2 ^ 63) (hD : D < 2 ^ 63) :
    FnM Tryd.prog n_cognates_Labels [slv p l.length cp, costs pc ws.length cc gap, .agg #[.int .i64 N, .int .i64 D]] (fun R => FormsAt R p l ∧ CostsAt R pc ws ∧ TabOk R) fun v mq _ => ∃ q cq, v = .tuple #[slv q (labelsE ws gap l N D).1.length cq, .int .i64 (labelsE ws gap l N D).2] ∧ RowI mq q cq (labelsE ws gap l N D).1 := by
  refine FnM.of S_cognates_Labels mx [.p p, .i l.length, .i cp, .p pc, .i ws.length, .i cc, .i gap, .i N, .i D] rfl rfl fun c hp => .alloc fun b0 => .alloc fun b1 => .callV (c_check19 p cp l pc cc ws gap N D hl hok) (fun g => ⟨hp.1.mono g.R, hp.2.1.mono g.R⟩) (.env (by (try simp only [liE, lO, lU, snd, aN]); rfl) (.ite (fun h1 => ?_) (fun h1 => ?_))) <;> ((try simp only [evE, liE, lO, lU, snd] at h1); (try simp only [cmE] at h1))
  · refine .ret rfl ?_
    unfold labelsE
    rw [if_pos h1]
    exact ⟨none, 0, rfl, .empty _⟩
  have h0 : check19 ws gap l N D = 0 := by simpa using h1
  unfold labelsE
  rw [if_neg (by simp [h0])]
  obtain ⟨hc, h16, hw, hlim⟩ := check19_ok h0
  have hal : (aloneL (l.map (·.has))).length = l.length := by rw [aloneL_len, List.length_map]
  refine .callM (c_apart p cp l pc cc ws gap hcp h16 hok hc hw) rfl rfl (fun g => ⟨hp.1.mono g.R, hp.2.1.mono g.R, hp.2.2.mono g.R⟩) ?_
  rintro v mq hfr ⟨xb, q, cq, rfl, hM⟩
  refine ⟨[.p (some ⟨xb, 0, none⟩), .i 0], uOk_of rfl, rfl, .env (by (try simp only [liE, lO, lU, snd, aN]); rfl) (.alloc fun b2 => .no rfl (.alloc fun b3 => .chk rfl (.chk rfl ?_)))⟩
  rw [show Mem.emp.join mq = mq from rfl]
  refine .loadS (ccells (slv q l.length cq) (tabX ws gap l) gap) 0 q l.length cq rfl rfl (fun g => cells_of_mem g hM.x) ?_
  have hcl := c_cloneI q cq (aloneL (l.map (·.has))) (by rw [hal]; exact hM.row.cap_le) (cap0_of hM.row) (by omega)
  rw [hal] at hcl
  refine .env (by (try simp only [liE, lO, lU, snd, aN]); rfl) (.callM hcl rfl rfl (fun g => hM.row.reads g) ?_)
  rintro v m2 hfr2 ⟨q2, k2, rfl, hr2⟩
  refine ⟨[.p q2, .i l.length, .i k2], uOk_of rfl, (slv_fresh _ _ _ _ _).symm, .env (by (try simp only [liE, lO, lU, snd, aN]); rfl) (.alloc fun b4 => ?_)⟩
  refine .callM (c_pairs19 xb) rfl rfl (fun _ => trivial) ?_
  rintro v m3 hfr3 ⟨bx, rfl, rfl⟩
  refine ⟨[.v _], ⟨_, rfl, rfl⟩, rfl, ?_⟩
  have hsub : ∀ b o, mq b = some o → (mq.join m2) b = some o := fun b o hb => by rw [join_old (by rw [hb]; simp), hb]
  refine .range n___cognates_classes__pairs_1 _ ((pairsN (aloneL (l.map (·.has)))).map (pairU l.length)) (fun w => mq.mv.le (Mv.of w)) (boxP bx xb) (mq.join m2)
    (fun k us m' => us = [] ∧ (∀ b o, mq b = some o → m' b = some o) ∧ RowI m' q2 k2 (labels0 ws gap l N D k)) (fun _ _ _ => False)
    rfl (by kernel_rfl) rfl ?_ ?_ ?_ ?_ ?_ ?_ ?_ (fun _ _ _ _ _ hE => hE.elim)
  · intro k hk
    cases hq : boxP bx xb k with
    | none => rfl
    | some o => exact absurd (hfr3 k (by rw [hq]; simp)).1 hk
  · intro ux hx
    obtain ⟨z, _, rfl⟩ := List.mem_map.1 hx; rfl
  · have := it_pairs xb bx q cq (aloneL (l.map (·.has))) (by omega) mq.mv ⟨by rw [hal]; exact (Mem.mv_cells hM.x).head, Mem.mv_row hM.row⟩
    rw [List.map_map]
    rw [hal] at this
    exact this
  · exact ⟨rfl, hsub, hr2.joinR fun b hb => (hfr2 b hb).1⟩
  · rintro k us m' w ⟨_, hs, _⟩ hw
    exact Mem.mv_le hs hw
  · rintro k us ux m' _ hx ⟨rfl, hs, hrow⟩
    rw [List.getElem?_map, Option.map_eq_some_iff] at hx
    obtain ⟨t, ht, rfl⟩ := hx
    have hstep := labels0_succ ws gap l N D k t ht
    obtain ⟨pa, pb, _, _, _⟩ := pairsN_mem ht
    rw [hal] at pa pb
    have hlen := labels0_len ws gap l N D k
    have hne : labels0 ws gap l N D k ≠ [] := fun e => by rw [e] at hlen; simp at hlen; omega
    unfold pairU
    generalize t / l.length = a at *
    generalize t % l.length = b at *
    generalize labels0 ws gap l N D k = cur at *
    have hsm := tab_small hc hw a b
    refine .env (by (try simp only [liE, lO, lU, snd, aN]); rfl) (.elem1 (.int .i64 (labAt cur a)) (intsL cur) a l.length rfl rfl pa (fun g => hrow.reads g) (intsL_at cur a (by omega)) (.env (by (try simp only [liE, lO, lU, snd, aN]); rfl) (.elem1 (.int .i64 (labAt cur b)) (intsL cur) b l.length rfl rfl pb (fun g => hrow.reads g) (intsL_at cur b (by omega)) (.env (by (try simp only [liE, lO, lU, snd, aN]); rfl) (.ite (fun h2 => ?_) (fun h2 => ?_)))))) <;> ((try simp only [evE, liE, lO, lU, snd] at h2); (try simp only [cmE] at h2))
    · refine .callV (c_near xb b1 b2 (slv q l.length cq) (tabX ws gap l) gap a b (by omega) (by omega) hsm N D hlim hN hD) (fun g => ⟨g.cells (j := 2) rfl rfl rfl, g.cells (j := 1) rfl rfl rfl, cells_of_mem g (hs xb _ hM.x)⟩) (.env (by (try simp only [liE, lO, lU, snd, aN]); rfl) (.ite (fun h3 => ?_) (fun h3 => ?_)))
      · replace h3 : nearB ws gap l N D a b = true := h3
        have hnew : labels0 ws gap l N D (k + 1) = uniteL cur (labAt cur a) (labAt cur b) := by rw [hstep]; unfold stepL; rw [if_pos h3]
        refine .chk (by ((try simp only [evE, liE, lO, lU, snd]); (try simp only [cmE])); omega) (.loop (fun n us m => ∃ i : Nat, i ≤ l.length ∧ n = l.length - i ∧ us = [.i i] ∧ (∀ b o, mq b = some o → m b = some o) ∧ RowI m q2 k2 (mixL (fun k => if k = labAt cur a ∨ k = labAt cur b then min (labAt cur a) (labAt cur b) else k) cur i)) l.length ⟨0, Nat.zero_le _, rfl, rfl, hs, by rw [mixL_zero]; exact hrow⟩ ?_)
        rintro n us m4 _ ⟨i, hi, rfl, rfl, hs4, hr4⟩
        refine .env (by (try simp only [liE, lO, lU, snd, aN]); rfl) (.ite (fun h4 => ?_) (fun h4 => ?_)) <;> ((try simp only [evE, liE, lO, lU, snd] at h4); (try simp only [cmE] at h4))
        · have hi : i < l.length := by omega
          have hic : i < cur.length := by omega
          have hml := mixL_len (fun k => if k = labAt cur a ∨ k = labAt cur b then min (labAt cur a) (labAt cur b) else k) cur i
          have hma := mixL_at (fun k => if k = labAt cur a ∨ k = labAt cur b then min (labAt cur a) (labAt cur b) else k) cur i hic
          have hmn : mixL (fun k => if k = labAt cur a ∨ k = labAt cur b then min (labAt cur a) (labAt cur b) else k) cur i ≠ [] := fun e => by rw [e] at hml; simp at hml; omega
          refine .elem1 (.int .i64 (labAt cur i)) (intsL (mixL (fun k => if k = labAt cur a ∨ k = labAt cur b then min (labAt cur a) (labAt cur b) else k) cur i)) i l.length rfl rfl hi (fun g => hr4.reads g) (by rw [intsL_at _ i (by omega), hma]) (.env (by (try simp only [liE, lO, lU, snd, aN]); rfl) (.ite (fun h5 => ?_) (fun h5 => ?_)))
          · replace h5 : (bif decide (labAt cur i = labAt cur a) then true else decide (labAt cur i = labAt cur b)) = true := h5
            have h5' : labAt cur i = labAt cur a ∨ labAt cur i = labAt cur b := by
              by_cases e : labAt cur i = labAt cur a
              · exact .inl e
              · rw [decide_eq_false e] at h5; exact .inr (by simpa using h5)
            have hrw := hr4.row hmn
            rw [hml, hlen] at hrw
            refine .storeR i hi hrw rfl rfl rfl fun m5 g hg hr5 hk5 => .again rfl ⟨l.length - (i + 1), by omega, i + 1, by omega, rfl, ?_, fun b' o hb => ?_, ?_⟩
            · (simp only [evE, liE, lO, lU, snd, Sh.uss, Sh.us, atAddr, map_add0, List.append_nil]); rw [add_i64 i (by omega)]
            · have hg2 : m2 g ≠ none := by
                have hal0 : aloneL (l.map (·.has)) ≠ [] := fun e => by rw [e] at hal; simp at hal; omega
                rcases (hr2.row hal0).2 with ⟨e, _⟩ | ⟨g', _, e, e', _⟩
                · rw [e] at hg; cases hg
                · rw [e] at hg; cases hg; rw [e']; simp
              have hbg : b' ≠ g := fun e => by rw [e, (hfr2 g hg2).1] at hb; cases hb
              rw [hk5 b' hbg]; exact hs4 b' o hb
            · replace hr5 : Row m5 3 1 q2 k2 l.length ((intsL (mixL (fun k => if k = labAt cur a ∨ k = labAt cur b then min (labAt cur a) (labAt cur b) else k) cur i)).set i (.int .i64 (if labAt cur b < labAt cur a then labAt cur b else labAt cur a))) := hr5
              rw [show (if labAt cur b < labAt cur a then labAt cur b else labAt cur a) = min (labAt cur a) (labAt cur b) by rw [Int.min_def]; split <;> split <;> omega] at hr5
              have hset := mixL_set (fun k => if k = labAt cur a ∨ k = labAt cur b then min (labAt cur a) (labAt cur b) else k) cur i hic
              rw [if_pos h5'] at hset
              rw [intsL_set, hset] at hr5
              refine .of ?_
              rw [mixL_len, hlen]; exact hr5
          · replace h5 : (bif decide (labAt cur i = labAt cur a) then true else decide (labAt cur i = labAt cur b)) = false := h5
            have h5' : ¬ (labAt cur i = labAt cur a ∨ labAt cur i = labAt cur b) := by
              rintro (e | e)
              · rw [decide_eq_true e] at h5; cases h5
              · rw [decide_eq_true e] at h5; cases h6 : decide (labAt cur i = labAt cur a) <;> rw [h6] at h5 <;> cases h5
            refine .again rfl ⟨l.length - (i + 1), by omega, i + 1, by omega, rfl, ?_, hs4, ?_⟩
            · (simp only [evE, liE, lO, lU, snd, Sh.uss, Sh.us, atAddr, map_add0, List.append_nil]); rw [add_i64 i (by omega)]
            · have hsame := mixL_same (fun k => if k = labAt cur a ∨ k = labAt cur b then min (labAt cur a) (labAt cur b) else k) cur i hic (if_neg h5')
              rw [hsame]; exact hr4
        · have : i = l.length := by omega
          subst this
          rw [← hlen, mixL_all] at hr4
          refine .leave (.inl ⟨rfl, rfl, hs4, ?_⟩)
          rw [hnew]; exact hr4
      · replace h3 : nearB ws gap l N D a b = false := h3
        refine .leave (.inl ⟨rfl, rfl, hs, ?_⟩)
        rw [hstep]; unfold stepL; rw [if_neg (by rw [h3]; simp)]; exact hrow
    · refine .leave (.inl ⟨rfl, rfl, hs, ?_⟩)
      rw [hstep]; unfold stepL
      dsimp only
      rw [show labAt cur b = labAt cur a by omega, uniteL_self, ite_self]; exact hrow
  · rintro us m' _ ⟨rfl, hs, hrow⟩
    rw [List.length_map] at hrow
    refine .env (by (try simp only [liE, lO, lU, snd, aN]); rfl) (.ret rfl ⟨q2, k2, ?_, hrow⟩)
    rw [labels0_len]; rfl
end Go.Proofs.YthabfpagilbplaaDoor
/- Chapter 19: Labels of the specification. -/
namespace Go.Proofs.YthabfpagilbplaaDoor
open Go Go.Sy Go.RowKit
end Go.Proofs.YthabfpagilbplaaDoor
/- Chapter 19: Labels of the specification, walked. -/
namespace Go.Proofs.YthabfpagilbplaaDoor
open Go Go.Sy Go.RowKit
end Go.Proofs.YthabfpagilbplaaDoor
/- Chapter 19: sums over classes; average linkage, in plain Lean. -/
namespace Go.Sy
open Go Go.RowKit
def sm : Nat → (Nat → Int) → Int
  | 0, _ => 0
  | n + 1, g => sm n g + g n
theorem sm_congr {n : Nat} {g h : Nat → Int} (e : ∀ i, i < n → g i = h i) : sm n g = sm n h := by
  induction n with
  | zero => rfl
  | succ n ih => simp only [sm]; rw [ih fun i hi => e i (by omega), e n (by omega)]
theorem sm_add (n : Nat) (g h : Nat → Int) : sm n (fun i => g i + h i) = sm n g + sm n h := by
  induction n with
  | zero => rfl
  | succ n ih => simp only [sm]; rw [ih]; omega
theorem sm_zero {n : Nat} {g : Nat → Int} (e : ∀ i, i < n → g i = 0) : sm n g = 0 := by
  induction n with
  | zero => rfl
  | succ n ih => simp only [sm]; rw [ih fun i hi => e i (by omega), e n (by omega)]; rfl
theorem sm_single {n : Nat} {g : Nat → Int} (a : Nat) (ha : a < n) (e : ∀ i, i < n → i ≠ a → g i = 0) : sm n g = g a := by
  induction n with
  | zero => omega
  | succ n ih =>
    simp only [sm]
    by_cases h : a = n
    · subst h; rw [sm_zero fun i hi => e i (by omega) (by omega)]; omega
    · rw [ih (by omega) fun i hi hne => e i (by omega) hne, e n (by omega) (Ne.symm h)]; omega
theorem sm_swap (n m : Nat) (F : Nat → Nat → Int) : sm n (fun i => sm m (F i)) = sm m (fun k => sm n (fun i => F i k)) := by
  induction n with
  | zero => exact (sm_zero fun i _ => rfl).symm
  | succ n ih => simp only [sm]; rw [ih, ← sm_add]
theorem sm_bound {n : Nat} {g : Nat → Int} {B : Int} (h : ∀ i, i < n → 0 ≤ g i ∧ g i ≤ B) : 0 ≤ sm n g ∧ sm n g ≤ n * B := by
  induction n with
  | zero => simp [sm]
  | succ n ih =>
    have h1 := ih fun i hi => h i (by omega)
    have h2 := h n (by omega)
    simp only [sm]
    rw [Int.natCast_succ, Int.add_mul, Int.one_mul]
    omega
theorem sm_lt {n : Nat} {g h : Nat → Int} (e : ∀ i, i < n → g i ≤ h i) (a : Nat) (ha : a < n) (hl : g a < h a) : sm n g < sm n h := by
  induction n with
  | zero => omega
  | succ n ih =>
    simp only [sm]
    have hle : ∀ m, (∀ i, i < m → g i ≤ h i) → sm m g ≤ sm m h := fun m => by
      induction m with
      | zero => intro _; exact Int.le_refl _
      | succ m ih2 => intro hm; simp only [sm]; have := ih2 fun i hi => hm i (by omega); have := hm m (by omega); omega
    by_cases q : a = n
    · subst q
      have := hle a fun i hi => e i (by omega)
      omega
    · have := ih (fun i hi => e i (by omega)) (by omega)
      have := e n (by omega)
      omega
def s1 (lab : List Int) (X : Nat → Nat → Int) (x y : Int) : Int := sm lab.length fun i => if labAt lab i = x then sm lab.length (fun k => if labAt lab k = y then X i k else 0) else 0
theorem s1_comm (lab : List Int) (X : Nat → Nat → Int) (hX : ∀ i k, X i k = X k i) (x y : Int) : s1 lab X x y = s1 lab X y x := by
  have h : ∀ x y, s1 lab X x y = sm lab.length fun i => sm lab.length fun k => if labAt lab i = x ∧ labAt lab k = y then X i k else 0 := fun x y => sm_congr fun i _ => by
    by_cases h : labAt lab i = x
    · rw [if_pos h]; exact sm_congr fun k _ => by simp [h]
    · rw [if_neg h]; exact (sm_zero fun k _ => by simp [h]).symm
  rw [h x y, h y x, sm_swap]
  exact sm_congr fun i _ => sm_congr fun k _ => by rw [hX i k]; by_cases h1 : labAt lab i = y <;> by_cases h2 : labAt lab k = x <;> simp [h1, h2]
theorem s1_bound (lab : List Int) (X : Nat → Nat → Int) {B : Int} (hB : 0 ≤ B) (h : ∀ i k, 0 ≤ X i k ∧ X i k ≤ B) (x y : Int) : 0 ≤ s1 lab X x y ∧ s1 lab X x y ≤ lab.length * (lab.length * B) := by
  have h0 : 0 ≤ (lab.length : Int) * B := Int.mul_nonneg (by omega) hB
  refine sm_bound fun i _ => ?_
  split
  · exact sm_bound fun k _ => by
      split
      · exact h i k
      · exact ⟨by omega, hB⟩
  · exact ⟨by omega, h0⟩
section
variable {lab lab' : List Int} {a b : Int} (hlen : lab'.length = lab.length) (hl : ∀ i, i < lab.length → labAt lab' i = if labAt lab i = b then a else labAt lab i) (hab : a ≠ b) (X : Nat → Nat → Int)
include hlen hl hab
theorem s1_left {c : Int} (h1 : c ≠ a) (h2 : c ≠ b) : s1 lab' X a c = s1 lab X a c + s1 lab X b c := by
  unfold s1
  rw [hlen, ← sm_add]
  refine sm_congr fun i hi => ?_
  have hin : sm lab.length (fun k => if labAt lab' k = c then X i k else 0) = sm lab.length (fun k => if labAt lab k = c then X i k else 0) := sm_congr fun k hk => by
    rw [hl k hk]
    by_cases e : labAt lab k = b
    · rw [if_pos e, if_neg (Ne.symm h1), if_neg (by rw [e]; exact Ne.symm h2)]
    · rw [if_neg e]
  rw [hin, hl i hi]
  by_cases e : labAt lab i = b
  · rw [if_pos e, if_pos rfl, if_neg (by rw [e]; exact Ne.symm hab), if_pos e]; omega
  · rw [if_neg e, if_neg e]; omega
theorem s1_right {c : Int} (h1 : c ≠ a) (h2 : c ≠ b) : s1 lab' X c a = s1 lab X c a + s1 lab X c b := by
  unfold s1
  rw [hlen, ← sm_add]
  refine sm_congr fun i hi => ?_
  have e1 : (labAt lab' i = c) = (labAt lab i = c) := by
    rw [hl i hi]
    by_cases e : labAt lab i = b
    · rw [if_pos e, e]; exact propext ⟨fun h => absurd h.symm h1, fun h => absurd h.symm h2⟩
    · rw [if_neg e]
  simp only [e1]
  by_cases e : labAt lab i = c
  · rw [if_pos e, if_pos e, if_pos e, ← sm_add]
    refine sm_congr fun k hk => ?_
    rw [hl k hk]
    by_cases e' : labAt lab k = b
    · rw [if_pos e', if_pos rfl, if_neg (by rw [e']; exact Ne.symm hab), if_pos e']; omega
    · rw [if_neg e', if_neg e']; omega
  · rw [if_neg e, if_neg e, if_neg e]; rfl
omit hab in
theorem s1_other {c d : Int} (h1 : c ≠ a) (h2 : c ≠ b) (h3 : d ≠ a) (h4 : d ≠ b) : s1 lab' X c d = s1 lab X c d := by
  have e1 : ∀ (x : Int), x ≠ a → x ≠ b → ∀ i, i < lab.length → (labAt lab' i = x) = (labAt lab i = x) := fun x q1 q2 i hi => by
    rw [hl i hi]
    by_cases e : labAt lab i = b
    · rw [if_pos e, e]; exact propext ⟨fun h => absurd h.symm q1, fun h => absurd h.symm q2⟩
    · rw [if_neg e]
  unfold s1
  rw [hlen]
  refine sm_congr fun i hi => ?_
  simp only [e1 c h1 h2 i hi]
  by_cases e : labAt lab i = c
  · rw [if_pos e, if_pos e]
    exact sm_congr fun k hk => by simp only [e1 d h3 h4 k hk]
  · rw [if_neg e, if_neg e]
end
def jF (a b : Nat) : Nat → (Nat → Nat → Int × Int) → Nat → Nat → Int × Int
  | 0, f => f
  | i + 1, f =>
    updC (updC (jF a b i f) a i (ar .add .i64 (jF a b i f a i).1 (jF a b i f b i).1, ar .add .i64 (jF a b i f a i).2 (jF a b i f b i).2)) i a (ar .add .i64 (jF a b i f a i).1 (jF a b i f b i).1, ar .add .i64 (jF a b i f a i).2 (jF a b i f b i).2)
theorem jF_rest (a b : Nat) (f : Nat → Nat → Int × Int) (i : Nat) {c d : Nat} (h1 : c ≠ a) (h2 : d ≠ a) : jF a b i f c d = f c d := by
  induction i with
  | zero => rfl
  | succ i ih => simp only [jF, updC]; rw [if_neg (by omega), if_neg (by omega), ih]
theorem jF_row (a b : Nat) (f : Nat → Nat → Int × Int) (hab : a ≠ b) (i : Nat) {c : Nat} (h1 : c ≠ a) : jF a b i f a c = if c < i then (ar .add .i64 (f a c).1 (f b c).1, ar .add .i64 (f a c).2 (f b c).2) else f a c := by
  induction i with
  | zero => rfl
  | succ i ih =>
    have hb := jF_rest a b f i (c := b) (d := c) (Ne.symm hab) h1
    simp only [jF, updC]
    rw [if_neg (by omega)]
    by_cases e : c = i
    · subst e
      rw [if_pos (by simp), if_pos (by omega), ih, if_neg (by omega), hb]
    · rw [if_neg (by omega), ih]
      by_cases e2 : c < i
      · rw [if_pos e2, if_pos (by omega)]
      · rw [if_neg e2, if_neg (by omega)]
theorem jF_col (a b : Nat) (f : Nat → Nat → Int × Int) (hab : a ≠ b) (i : Nat) {c : Nat} (h1 : c ≠ a) : jF a b i f c a = if c < i then (ar .add .i64 (f a c).1 (f b c).1, ar .add .i64 (f a c).2 (f b c).2) else f c a := by
  induction i with
  | zero => rfl
  | succ i ih =>
    have hb := jF_rest a b f i (c := b) (d := c) (Ne.symm hab) h1
    have hr := jF_row a b f hab i h1
    simp only [jF, updC]
    by_cases e : c = i
    · subst e
      rw [if_pos (by simp), if_pos (by omega), hr, if_neg (by omega), hb]
    · rw [if_neg (by simp [e]), if_neg (by omega), ih]
      by_cases e2 : c < i
      · rw [if_pos e2, if_pos (by omega)]
      · rw [if_neg e2, if_neg (by omega)]
end Go.Sy
namespace Go.Proofs.YthabfpagilbplaaDoor
open Go Go.Sy Go.RowKit
def sumS (ws : List Int) (gap : Int) (l : List FD) (lab : List Int) (a b : Int) : Int × Int := (s1 lab (fun i k => (tabX ws gap l i k).1) a b, s1 lab (fun i k => (tabX ws gap l i k).2) a b)
def ratS (ws : List Int) (gap : Int) (l : List FD) (lab : List Int) (a b : Nat) : Int × Int := ratC gap (sumS ws gap l lab a b)
structure LS where
  i : Int
  k : Int
  r : Int × Int
def lstep (rat : Nat → Nat → Int × Int) (s : LS) (e : Nat × Nat) : LS := if s.i < 0 ∨ leF s.r (rat e.1 e.2) = false then ⟨e.1, e.2, rat e.1 e.2⟩ else s
def leastL (rat : Nat → Nat → Int × Int) (lab : List Int) (m : Nat) : LS := (((pairsN lab).take m).map (pairN lab.length)).foldl (lstep rat) ⟨-1, -1, (0, 0)⟩
theorem leastL_succ (rat : Nat → Nat → Int × Int) (lab : List Int) (m t : Nat) (h : (pairsN lab)[m]? = some t) : leastL rat lab (m + 1) = lstep rat (leastL rat lab m) (t / lab.length, t % lab.length) := by
  obtain ⟨hk, he⟩ := List.getElem?_eq_some_iff.1 h
  unfold leastL
  rw [take_snoc _ m hk, he, List.map_append, List.foldl_append]; rfl
theorem tabX_comm (ws : List Int) (gap : Int) (l : List FD) (i k : Nat) : tabX ws gap l i k = tabX ws gap l k i := by
  unfold tabX
  by_cases h : i = k
  · rw [if_pos h, if_pos h.symm]
  · rw [if_neg h, if_neg (Ne.symm h), pairX_comm]
def LSok (rat : Nat → Nat → Int × Int) (lab : List Int) (s : LS) : Prop := (s.i = -1 ∧ s.k = -1 ∧ s.r = (0, 0)) ∨ ∃ a b : Nat, s = ⟨a, b, rat a b⟩ ∧ a < b ∧ b < lab.length ∧ labAt lab a = (a : Int) ∧ labAt lab b = (b : Int)
theorem leastL_ok (rat : Nat → Nat → Int × Int) (lab : List Int) (m : Nat) (hm : m ≤ (pairsN lab).length) : LSok rat lab (leastL rat lab m) := by
  induction m with
  | zero => exact .inl ⟨rfl, rfl, rfl⟩
  | succ m ih =>
    have hk : m < (pairsN lab).length := by omega
    have hp := pairsN_mem (List.getElem?_eq_getElem hk)
    rw [leastL_succ rat lab m _ (List.getElem?_eq_getElem hk)]
    unfold lstep
    split
    · exact .inr ⟨_, _, rfl, hp.2.2.1, hp.2.1, hp.2.2.2.1, hp.2.2.2.2⟩
    · exact ih (by omega)
def leastA (ws : List Int) (gap : Int) (l : List FD) (lab : List Int) : LS := leastL (ratS ws gap l lab) lab (pairsN lab).length
def avgN (ws : List Int) (gap : Int) (l : List FD) (N D : Int) : Nat → List Int → List Int
  | 0, lab => lab
  | m + 1, lab => if (leastA ws gap l lab).i < 0 ∨ leF (leastA ws gap l lab).r (N, D) = false then lab else avgN ws gap l N D m (uniteL lab (leastA ws gap l lab).i (leastA ws gap l lab).k)
def mu (lab : List Int) : Nat := (sm lab.length fun i => labAt lab i + 1).toNat
def averageE (ws : List Int) (gap : Int) (l : List FD) (N D : Int) : List Int × Int := if check19 ws gap l N D ≠ 0 then ([], check19 ws gap l N D) else (avgN ws gap l N D (mu (aloneL (l.map (·.has)))) (aloneL (l.map (·.has))), 0)
theorem avg_stop {ws : List Int} {gap : Int} {l : List FD} {N D : Int} {lab : List Int} (h : (leastA ws gap l lab).i < 0 ∨ leF (leastA ws gap l lab).r (N, D) = false) (m : Nat) : avgN ws gap l N D m lab = lab := by
  cases m with
  | zero => rfl
  | succ m => unfold avgN; rw [if_pos h]
theorem canon_low {has : List Bool} {E : Nat → Nat → Prop} {lab : List Int} (h : Canon has E lab) (i : Nat) (hi : i < lab.length) : -1 ≤ labAt lab i := by
  have hi' : i < has.length := by rw [← h.len]; exact hi
  cases e : has[i] with
  | false => rw [h.no i (by rw [List.getElem?_eq_getElem hi', e])]; omega
  | true =>
    obtain ⟨k, h1, _⟩ := h.yes i (by rw [List.getElem?_eq_getElem hi', e])
    rw [h1]; omega
theorem canon_rep {has : List Bool} {E : Nat → Nat → Prop} {lab : List Int} (h : Canon has E lab) {a : Nat} (ha : a < lab.length) (hl : labAt lab a = (a : Int)) : has[a]? = some true := by
  have ha' : a < has.length := by rw [← h.len]; exact ha
  rw [List.getElem?_eq_getElem ha']
  cases e : has[a] with
  | true => rfl
  | false => have := h.no a (by rw [List.getElem?_eq_getElem ha', e]); omega
theorem unite_at {lab : List Int} {a b : Nat} (hab : a < b) (i : Nat) (hi : i < lab.length) : labAt (uniteL lab a b) i = if labAt lab i = (b : Int) then (a : Int) else labAt lab i := by
  rw [labAt_unite hi]
  by_cases h1 : labAt lab i = (a : Int)
  · rw [if_pos (.inl h1), if_neg (by omega), h1]; omega
  · by_cases h2 : labAt lab i = (b : Int)
    · rw [if_pos (.inr h2), if_pos h2]; omega
    · rw [if_neg (by omega), if_neg h2]
theorem canon_unite {has : List Bool} {E : Nat → Nat → Prop} {lab : List Int} (h : Canon has E lab) {a b : Nat} (ha : a < lab.length) (hb : b < lab.length) (la : labAt lab a = (a : Int)) (lb : labAt lab b = (b : Int)) : ∃ E', Canon has E' (uniteL lab a b) := by
  have := h.unite (canon_rep h ha la) (canon_rep h hb lb)
  rw [la, lb] at this
  exact ⟨_, this⟩
theorem mu_unite {has : List Bool} {E : Nat → Nat → Prop} {lab : List Int} (h : Canon has E lab) {a b : Nat} (hab : a < b) (hb : b < lab.length) (lb : labAt lab b = (b : Int)) : mu (uniteL lab a b) < mu lab := by
  unfold mu
  rw [uniteL_len]
  have h1 := sm_lt (n := lab.length) (g := fun i => labAt (uniteL lab a b) i + 1) (h := fun i => labAt lab i + 1) (fun i hi => by
    have := unite_at (lab := lab) hab i hi
    rw [this]
    split <;> omega) b hb (by
    have := unite_at (lab := lab) hab b hb
    rw [this, if_pos lb, lb]; omega)
  have h2 := sm_bound (n := lab.length) (g := fun i => labAt (uniteL lab a b) i + 1) (B := 0 + sm lab.length fun i => (labAt lab i + 1)) 
  have h3 : ∀ (n : Nat) (g : Nat → Int), (∀ i, i < n → 0 ≤ g i) → 0 ≤ sm n g := fun n g => by
    induction n with
    | zero => intro _; exact Int.le_refl _
    | succ n ih => intro hg; simp only [sm]; have := ih fun i hi => hg i (by omega); have := hg n (by omega); omega
  have h4 := h3 lab.length (fun i => labAt (uniteL lab a b) i + 1) fun i hi => by
    have := unite_at (lab := lab) hab i hi
    have hlow := canon_low h i hi
    rw [this]
    split <;> omega
  omega
theorem avg_go {ws : List Int} {gap : Int} {l : List FD} {N D : Int} {has : List Bool} {E : Nat → Nat → Prop} {lab : List Int} (hC : Canon has E lab) {m : Nat} (hm : mu lab ≤ m) (h : ¬ ((leastA ws gap l lab).i < 0 ∨ leF (leastA ws gap l lab).r (N, D) = false)) :
    ∃ a b m' : Nat, leastA ws gap l lab = ⟨a, b, ratS ws gap l lab a b⟩ ∧ a < b ∧ b < lab.length ∧ labAt lab a = (a : Int) ∧ labAt lab b = (b : Int) ∧ m = m' + 1 ∧ mu (uniteL lab a b) ≤ m' ∧ avgN ws gap l N D m lab = avgN ws gap l N D m' (uniteL lab a b) ∧ ∃ E', Canon has E' (uniteL lab a b) := by
  rcases leastL_ok (ratS ws gap l lab) lab (pairsN lab).length (Nat.le_refl _) with ⟨h1, _⟩ | ⟨a, b, e, h1, h2, h3, h4⟩
  · exact absurd (.inl (by show (leastL _ _ _).i < 0; rw [h1]; decide)) h
  · have hmu := mu_unite hC h1 h2 h4
    obtain ⟨m', rfl⟩ : ∃ m', m = m' + 1 := ⟨m - 1, by omega⟩
    refine ⟨a, b, m', e, h1, h2, h3, h4, rfl, by omega, ?_, canon_unite hC (by omega) h2 h3 h4⟩
    have e' : leastA ws gap l lab = ⟨a, b, ratS ws gap l lab a b⟩ := e
    conv => lhs; unfold avgN
    rw [if_neg h, e']
theorem mixL_join {lab : List Int} {a b : Nat} (hab : a < b) : lab.map (fun k => if k = (b : Int) then (a : Int) else k) = uniteL lab a b := by
  unfold uniteL
  apply List.map_congr_left
  intro k _
  by_cases h1 : k = (b : Int)
  · rw [if_pos h1, if_pos (.inr h1)]; omega
  · by_cases h2 : k = (a : Int)
    · rw [if_neg h1, if_pos (.inl h2)]; omega
    · rw [if_neg h1, if_neg (by omega)]
def SumOk (ws : List Int) (gap : Int) (l : List FD) (lab : List Int) (f : Nat → Nat → Int × Int) : Prop := ∀ a b : Nat, a < lab.length → b < lab.length → a ≠ b → labAt lab a = (a : Int) → labAt lab b = (b : Int) → f a b = sumS ws gap l lab a b
theorem sumS_bound {ws : List Int} {gap : Int} {l : List FD} (hc : checkC ws gap = 0) (hw : ∀ f ∈ l, checkW f.w.w = 0) {lab : List Int} (hl : lab.length ≤ 16) (a b : Int) : Small (sumS ws gap l lab a b) gap ∧ (sumS ws gap l lab a b).1 ≤ 16 * (16 * (1073741824 * 64)) ∧ (sumS ws gap l lab a b).2 ≤ 16 * (16 * 64) := by
  have e1 := s1_bound lab (fun i k => (tabX ws gap l i k).1) (B := 1073741824 * 64) (by decide) (fun i k => by have := tabX_small hc hw i k; exact ⟨this.1, this.2.1⟩) a b
  have e2 := s1_bound lab (fun i k => (tabX ws gap l i k).2) (B := 64) (by decide) (fun i k => by have := tabX_small hc hw i k; exact ⟨this.2.2.1, this.2.2.2⟩) a b
  have hg := checkC_zero hc
  have hn : (lab.length : Int) ≤ 16 := by omega
  have m1 : (lab.length : Int) * ((lab.length : Int) * (1073741824 * 64)) ≤ 16 * (16 * (1073741824 * 64)) := Int.le_trans (Int.mul_le_mul_of_nonneg_right hn (Int.mul_nonneg (by omega) (by decide))) (Int.mul_le_mul_of_nonneg_left (Int.mul_le_mul_of_nonneg_right hn (by decide)) (by decide))
  have m2 : (lab.length : Int) * ((lab.length : Int) * 64) ≤ 16 * (16 * 64) := Int.le_trans (Int.mul_le_mul_of_nonneg_right hn (Int.mul_nonneg (by omega) (by decide))) (Int.mul_le_mul_of_nonneg_left (Int.mul_le_mul_of_nonneg_right hn (by decide)) (by decide))
  refine ⟨⟨e1.1, ?_, e2.1, ?_, hg.2.1, hg.2.2.1⟩, ?_, ?_⟩ <;> unfold sumS <;> dsimp only <;> omega
theorem SumOk.alone {ws : List Int} {gap : Int} {l : List FD} : SumOk ws gap l (aloneL (l.map (·.has))) (tabX ws gap l) := by
  intro a b ha hb hab la lb
  have hal : (aloneL (l.map (·.has))).length = (l.map (·.has)).length := aloneL_len _
  have hself : ∀ i, i < (aloneL (l.map (·.has))).length → ∀ x : Nat, labAt (aloneL (l.map (·.has))) x = (x : Int) → (labAt (aloneL (l.map (·.has))) i = (x : Int) ↔ i = x) := fun i hi x hx => by
    constructor
    · intro h
      have := aloneL_at (l.map (·.has)) i (by omega)
      unfold labAt at h
      rw [List.getElem?_eq_getElem hi, Option.getD_some, this] at h
      split at h
      · omega
      · omega
    · rintro rfl; exact hx
  have key : ∀ X : Nat → Nat → Int, s1 (aloneL (l.map (·.has))) X a b = X a b := fun X => by
    unfold s1
    rw [sm_single a ha fun i hi hne => if_neg fun h => hne ((hself i hi a la).1 h), if_pos la, sm_single b hb fun k hk hne => if_neg fun h => hne ((hself k hk b lb).1 h), if_pos lb]
  unfold sumS
  rw [key, key]
theorem SumOk.join {ws : List Int} {gap : Int} {l : List FD} (hc : checkC ws gap = 0) (hw : ∀ f ∈ l, checkW f.w.w = 0) {lab : List Int} (hl : lab.length ≤ 16) {f : Nat → Nat → Int × Int} (hS : SumOk ws gap l lab f) {a b : Nat} (hab : a < b) (hb : b < lab.length) (la : labAt lab a = (a : Int)) (lb : labAt lab b = (b : Int)) :
    SumOk ws gap l (uniteL lab a b) (jF a b 16 f) := by
  intro c d hc' hd' hcd lc ld
  rw [uniteL_len] at hc' hd'
  rw [unite_at hab c hc'] at lc
  rw [unite_at hab d hd'] at ld
  have comm1 := s1_comm lab (fun i k => (tabX ws gap l i k).1) (fun i k => by rw [tabX_comm])
  have comm2 := s1_comm lab (fun i k => (tabX ws gap l i k).2) (fun i k => by rw [tabX_comm])
  have hlen := uniteL_len lab (a : Int) (b : Int)
  have hat := unite_at (lab := lab) hab
  have hab' : (a : Int) ≠ (b : Int) := by omega
  have notb : ∀ {x : Nat}, x < lab.length → (if labAt lab x = (b : Int) then (a : Int) else labAt lab x) = (x : Int) → x ≠ b ∧ labAt lab x = (x : Int) := fun {x} hx h => by
    split at h
    · have : x = a := by omega
      subst this; omega
    · refine ⟨?_, h⟩
      rintro rfl; omega
  obtain ⟨cb, lc2⟩ := notb hc' lc
  obtain ⟨db, ld2⟩ := notb hd' ld
  have add : ∀ x : Nat, x < lab.length → x ≠ a → x ≠ b → labAt lab x = (x : Int) → (ar .add .i64 (f a x).1 (f b x).1, ar .add .i64 (f a x).2 (f b x).2) = sumS ws gap l (uniteL lab a b) a x := fun x hx h1 h2 lx => by
    rw [hS a x (by omega) hx (Ne.symm h1) la lx, hS b x hb hx (Ne.symm h2) lb lx]
    have b1 := sumS_bound hc hw hl (a : Int) (x : Int)
    have b2 := sumS_bound hc hw hl (b : Int) (x : Int)
    have p1 := b1.1.1; have p2 := b1.1.2.2.1; have p3 := b2.1.1; have p4 := b2.1.2.2.1
    rw [addI (by omega) (by omega), addI (by omega) (by omega)]
    unfold sumS
    rw [s1_left hlen hat hab' _ (by omega) (by omega), s1_left hlen hat hab' _ (by omega) (by omega)]
  by_cases h1 : c = a
  · subst h1
    rw [jF_row c b f (by omega) 16 (Ne.symm hcd), if_pos (by omega), add d hd' (Ne.symm hcd) db ld2]
  · by_cases h2 : d = a
    · subst h2
      rw [jF_col d b f (by omega) 16 hcd, if_pos (by omega), add c hc' hcd cb lc2]
      unfold sumS
      rw [s1_left hlen hat hab' _ (by omega) (by omega), s1_left hlen hat hab' _ (by omega) (by omega), s1_right hlen hat hab' _ (by omega) (by omega), s1_right hlen hat hab' _ (by omega) (by omega), comm1 d c, comm1 b c, comm2 d c, comm2 b c]
    · rw [jF_rest a b f 16 h1 h2, hS c d hc' hd' hcd lc2 ld2]
      unfold sumS
      rw [s1_other hlen hat _ (by omega) (by omega) (by omega) (by omega), s1_other hlen hat _ (by omega) (by omega) (by omega) (by omega)]
end Go.Proofs.YthabfpagilbplaaDoor
/- Chapter 19: join; Average. -/
namespace Go.Sy
open Go Go.RowKit
def FnO (P : Program) (f : FuncId) (args : List Value) (mo : Mem) (Q : Value → Mem → Prop) : Prop := ∀ w, (HW.mem mo).H w → Calls P f args.toArray w fun e w' => ∃ v, e = .returned v ∧ (w.heap.size ≤ w'.heap.size ∧ w'.tape = w.tape ∧ w'.os = w.os ∧ w'.output = w.output) ∧
  (∀ k, k < w.heap.size → mo k = none → w'.heap[k]? = w.heap[k]?) ∧ ∃ mq : Mem, (∀ b, mq b ≠ none → mo b ≠ none ∨ w.heap.size ≤ b) ∧ (HW.mem mq).H w' ∧ Q v mq
def Cx.own0 (w : World) (mo : Mem) : Cx where
  hb := HW.bas w mo
  R := ⟨fun _ _ => none, fun _ => none⟩
  ok _ _ _ _ _ := fun h => by cases h
  own _ _ _ := fun h => by cases h
  okm _ _ _ _ := fun h => by cases h
  ownm _ _ := fun h => by cases h
theorem FnO.of {P : Program} {f : FuncId} {shs : List Sh} {t : Tree} (S : FnIs P f shs t) (hmix : P.follows .mixedOrders = true) (us : List U) (hus : Sh.eats shs us = some []) {args : List Value} (hargs : SV.dens [] us (Sh.freshs shs 0).1 = args) {mo : Mem} {Q : Value → Mem → Prop}
    (hd : ∀ c : Cx, DenM P (outM c Q) (fun _ _ _ => False) t [] us c mo []) : FnO P f args mo Q := fun w hmo => by
  obtain ⟨fn, ann, fuel, hf, ht⟩ := S
  have g : Good (Cx.own0 w mo) [] mo := ⟨fun b hb ho => hb ho.2, by simp, List.nodup_nil⟩
  have hH : ((Cx.own0 w mo).hw mo).H w := ⟨HW.bas_self w _, hmo⟩
  refine (fn_sound hf hmix ht (usOk_of hus) hargs hH (hd (Cx.own0 w mo) g)).mono ?_
  rintro e w' ⟨v, rfl, h', hH', hg, m, hm, rfl, hQ⟩
  obtain ⟨q1, q2, q3, q4, q5⟩ := hH'.1
  refine ⟨v, rfl, ⟨q1, q3, q4, q5⟩, q2, m, fun b hb => ?_, hH'.2, hQ⟩
  have := hm b hb
  rcases Nat.lt_or_ge b w.heap.size with hlt | hge
  · exact .inl fun h => this ⟨hlt, h⟩
  · exact .inr hge
section
variable {P : Program} {c : Cx} {L : List Nat} {ρ : Env} {blks : List Blk} {m : Mem} {R : Value → HW → Prop} {Dn : Nat → List U → HW → Prop} {A : List (List U → HW → Prop)}
theorem DenM.callOw {f : FuncId} {args : List SV} {sh : Sh} {k : Tree} {vs : List Value} {mo : Mem} {Q : Value → Mem → Prop} (hc : ∀ w, Wd L ρ blks (c.hw m) w → Calls P f vs.toArray w fun e w' => ∃ v, e = .returned v ∧ (w.heap.size ≤ w'.heap.size ∧ w'.tape = w.tape ∧ w'.os = w.os ∧ w'.output = w.output) ∧
  (∀ k, k < w.heap.size → mo k = none → w'.heap[k]? = w.heap[k]?) ∧ ∃ mq : Mem, (∀ b, mq b ≠ none → mo b ≠ none ∨ w.heap.size ≤ b) ∧ (HW.mem mq).H w' ∧ Q v mq) (hargs : SV.dens L ρ args = vs) (hs : scBlks ρ.length blks = true) (hmo : ∀ b o, mo b = some o → m b = some o)
    (hk : ∀ v mq, (∀ b, mq b ≠ none → mo b ≠ none ∨ (m b = none ∧ b ∉ L ∧ ¬ c.hb.own b)) → Q v mq → ∃ us, UOk sh us ∧ v = (sh.fresh ρ.length).1.den L (ρ ++ us) ∧ DenM P R Dn k L (ρ ++ us) c ((m.minus mo).join mq) A) : DenM P R Dn (.call false f args sh blks k) L ρ c m A := fun g w hw => by
  rw [hargs]
  have hno : ∀ b, m b = none → mo b = none := fun b hb => by
    cases h : mo b with
    | none => rfl
    | some o => rw [hmo b o h] at hb; cases hb
  refine (hc w hw).mono ?_
  rintro e w' ⟨v, rfl, ⟨b1, b2, b3, b4⟩, hsame, mq, hfr, hmq, hQ⟩
  have hml : ∀ b, m b ≠ none → b < w.heap.size := fun b hb => (HW.mem m).inb w b hw.hold.2 hb
  have hfresh : ∀ b, mq b ≠ none → mo b ≠ none ∨ (m b = none ∧ b ∉ L ∧ ¬ c.hb.own b) := fun b hb' => by
    rcases hfr b hb' with h | hge
    · exact .inl h
    refine .inr ⟨?_, fun hm => by have := hw.lt b hm; omega, fun ho => by have := c.hb.inb w b hw.hold.1 ho; omega⟩
    cases hm : m b with
    | none => rfl
    | some o => have := hml b (by rw [hm]; simp); omega
  obtain ⟨us, hus, hv, hd⟩ := hk v mq hfresh hQ
  have hminus : ∀ b, m.minus mo b ≠ none → m b ≠ none ∧ mo b = none := fun b hb => ⟨by have := Mem.minus_none b hb; rw [Mem.minus_at this] at hb; exact hb, Mem.minus_none b hb⟩
  have hm' : ∀ b, (m.minus mo).join mq b ≠ none → m b ≠ none ∨ (m b = none ∧ b ∉ L ∧ ¬ c.hb.own b ∧ w.heap.size ≤ b) := fun b hb => by
    rcases join_some hb with h | ⟨_, h⟩
    · exact .inl (hminus b h).1
    · by_cases hmb : m b = none
      · refine .inr ?_
        rcases hfr b h with h2 | h2
        · exact absurd (hno b hmb) h2
        · rcases hfresh b h with h3 | h3
          · exact absurd (hno b hmb) h3
          · exact ⟨h3.1, h3.2.1, h3.2.2, h2⟩
      · exact .inl hmb
  have hgood : Good c L ((m.minus mo).join mq) := ⟨fun b hb' => (hm' b hb').elim (g.mem b) fun h => h.2.2.1, fun b hb' => ⟨by
    cases hq : (m.minus mo).join mq b with
    | none => rfl
    | some o => exact ((hm' b (by rw [hq]; simp)).elim (fun h => h (g.blk b hb').1) fun h => h.2.1 hb').elim, (g.blk b hb').2⟩, g.nd⟩
  have hkeep : ∀ b, b < w.heap.size → m b = none → w'.heap[b]? = w.heap[b]? := fun b hb h => hsame b hb (hno b h)
  have hw' : Wd L ρ blks (c.hw ((m.minus mo).join mq)) w' := ⟨hw.len, fun j q hq => by
    have hm : L.getD j 0 ∈ L := getD_mem (by rw [hw.len]; exact (List.getElem?_eq_some_iff.1 hq).1)
    rw [hkeep _ (hw.lt _ hm) (g.blk _ hm).1]; exact hw.blk j q hq, hw.nd, fun b hb' ho => by
    rcases ho with ho | ho
    · exact (g.blk b hb').2 ho
    · exact ho (hgood.blk b hb').1, c.hb.stab w w' hw.hold.1 b1 (fun b hb => hkeep b (c.hb.inb w b hw.hold.1 hb) (by
      cases hm : m b with
      | none => rfl
      | some o => exact absurd hb (g.mem b (by rw [hm]; simp)))) b2 b3 b4, fun b o hbo => by
      have hbo' := hbo
      unfold Mem.join at hbo
      cases hm : m.minus mo b with
      | some x =>
        rw [hm] at hbo; cases hbo
        have h2 := hminus b (by rw [hm]; simp)
        rw [Mem.minus_at h2.2] at hm
        rw [hsame b (hml b h2.1) h2.2]; exact hw.hold.2 b _ hm
      | none => rw [hm] at hbo; exact hmq b o hbo⟩
  refine ⟨_, rfl, us, c.hw ((m.minus mo).join mq), hus, hv, ⟨b1, fun k hk hn => ⟨fun ho => ?_, hkeep k hk ?_⟩, b2, b3, b4⟩, fun h => (by cases h), (Wd.letters hs).2 hw', hd hgood⟩
  · rcases ho with (ho | ho) | ho
    · exact hn (.inl (.inl ho))
    · rcases hm' k ho with h | h
      · exact hn (.inl (.inr h))
      · omega
    · exact hn (.inr ho)
  · cases hm : m k with
    | none => rfl
    | some o => exact absurd (.inl (.inr (by show m k ≠ none; rw [hm]; simp))) hn
theorem DenM.callO {f : FuncId} {args : List SV} {sh : Sh} {k : Tree} {vs : List Value} {mo : Mem} {Q : Value → Mem → Prop} (hc : FnO P f vs mo Q) (hargs : SV.dens L ρ args = vs) (hs : scBlks ρ.length blks = true) (hmo : ∀ b o, mo b = some o → m b = some o)
    (hk : ∀ v mq, (∀ b, mq b ≠ none → mo b ≠ none ∨ (m b = none ∧ b ∉ L ∧ ¬ c.hb.own b)) → Q v mq → ∃ us, UOk sh us ∧ v = (sh.fresh ρ.length).1.den L (ρ ++ us) ∧ DenM P R Dn k L (ρ ++ us) c ((m.minus mo).join mq) A) : DenM P R Dn (.call false f args sh blks k) L ρ c m A :=
  .callOw (fun w hw => hc w fun b o hb => hw.hold.2 b o (hmo b o hb)) hargs hs hmo hk
end
theorem offB (i k : Nat) : ((((1 : Int) + (i : Int) * ((32 : Nat) : Int)) + (k : Int) * ((2 : Nat) : Int)) + (1 : Int) * ((1 : Nat) : Int)).toNat = 1 + i * 32 + k * 2 + 1 := by omega
end Go.Sy
namespace Go.Proofs.YthabfpagilbplaaDoor
open Go Go.Sy Go.RowKit
theorem updC_at (f : Nat → Nat → Int × Int) (i k : Nat) (v : Int × Int) : updC f i k v i k = v := if_pos ⟨rfl, rfl⟩
theorem updC_ne (f : Nat → Nat → Int × Int) {i k i' k' : Nat} (v : Int × Int) (h : i' ≠ i) : updC f i k v i' k' = f i' k' := if_neg fun e => h e.1
theorem updC_updC (f : Nat → Nat → Int × Int) (i k : Nat) (v v' : Int × Int) : updC (updC f i k v) i k v' = updC f i k v' := by
  funext a b; unfold updC; split <;> rfl
section
variable {P : Program} {c : Cx} {L : List Nat} {ρ : Env} {blks : List Blk} {m : Mem} {R : Value → HW → Prop} {Dn : Nat → List U → HW → Prop} {A : List (List U → HW → Prop)}
theorem storeC {i : Nat} {off : IT} {cells : List SV} {k : Tree} {xb : Nat} {q : Option Addr} {cq n : Nat} {lab : List Int} {f : Nat → Nat → Int × Int} {gap : Int} (f' : Nat → Nat → Int × Int) (o : Nat) (hM : ClM m xb q cq n lab f gap) (ha : atAddr ρ i (off.eval ρ) = some ⟨xb, o, none⟩) (hl : o + cells.length ≤ 514)
    (hput : putAt (ccells (slv q n cq) f gap) o (SV.dens L ρ cells) = ccells (slv q n cq) f' gap) (hk : ∀ m', ClM m' xb q cq n lab f' gap → DenM P R Dn k L ρ c m' A) : DenM P R Dn (.store false i off cells blks k) L ρ c m A := by
  refine .store xb o _ 99 rfl ha hM.x (by rw [List.size_toArray, ccells_len]; exact hl) (hk _ ⟨?_, hM.row.keep fun g hg _ => Mem.upd_other _ _ (hM.ne g hg), hM.ne⟩)
  rw [Mem.upd_same, List.toList_toArray, hput]
end
theorem c_join (mo : Mem) (xb : Nat) (q : Option Addr) (cq : Nat) (lab : List Int) (f : Nat → Nat → Int × Int) (gap : Int) (a b : Nat) (hl : lab.length ≤ 16) (hab : a < b) (hb : b < lab.length) (hM : ClM mo xb q cq lab.length lab f gap) :
    FnO Tryd.prog n___cognates_classes__join [.pointer (some ⟨xb, 0, none⟩), .int .i64 a, .int .i64 b] mo fun v mq => v = .tuple #[] ∧ ClM mq xb q cq lab.length (uniteL lab a b) (jF a b 16 f) gap := by
  refine FnO.of S___cognates_classes__join mx [.p (some ⟨xb, 0, none⟩), .i a, .i b] rfl rfl fun c => .chk rfl (.chk rfl (.loadS (ccells (slv q lab.length cq) f gap) 0 q lab.length cq rfl rfl (fun g => cells_of_mem g hM.x) (.env (by (try simp only [liE, lO, lU, snd, aN]); rfl) (.chk (by ((try simp only [evE, liE, lO, lU, snd]); (try simp only [cmE])); omega) ?_))))
  refine .loop (fun n us m => ∃ i : Nat, i ≤ lab.length ∧ n = lab.length - i ∧ us = [.i i] ∧ ClM m xb q cq lab.length (mixL (fun k => if k = (b : Int) then (a : Int) else k) lab i) f gap) lab.length ⟨0, Nat.zero_le _, rfl, rfl, by rw [mixL_zero]; exact hM⟩ ?_
  rintro n us m _ ⟨i, hi, rfl, rfl, hM1⟩
  refine .env (by (try simp only [liE, lO, lU, snd, aN]); rfl) (.ite (fun h1 => ?_) (fun h1 => ?_)) <;> ((try simp only [evE, liE, lO, lU, snd] at h1); (try simp only [cmE] at h1))
  · have hi : i < lab.length := by omega
    have hml := mixL_len (fun k => if k = (b : Int) then (a : Int) else k) lab i
    have hma := mixL_at (fun k => if k = (b : Int) then (a : Int) else k) lab i hi
    have hset := mixL_set (fun k => if k = (b : Int) then (a : Int) else k) lab i hi
    refine .elem1 (.int .i64 (labAt lab i)) (intsL (mixL (fun k => if k = (b : Int) then (a : Int) else k) lab i)) i lab.length rfl rfl hi (fun g => hM1.row.reads g) (by rw [intsL_at _ i (by omega), hma]) (.env (by (try simp only [liE, lO, lU, snd, aN]); rfl) (.ite (fun h2 => ?_) (fun h2 => ?_)))
    · replace h2 : (labAt lab i == (b : Int)) = true := h2
      have h2' : labAt lab i = (b : Int) := by simpa using h2
      refine .chk rfl (.chk rfl (.loadS (ccells (slv q lab.length cq) f gap) 0 q lab.length cq rfl rfl (fun g => cells_of_mem g hM1.x) (.env (by (try simp only [liE, lO, lU, snd, aN]); rfl) (.storeR i hi hM1.row rfl rfl rfl fun m5 g hg hr5 hk5 => .again rfl ⟨lab.length - (i + 1), by omega, i + 1, by omega, rfl, ?_, ?_, ?_, hM1.ne⟩))))
      · (simp only [evE, liE, lO, lU, snd, Sh.uss, Sh.us, atAddr, map_add0, List.append_nil]); rw [add_i64 i (by omega)]
      · rw [hk5 xb (Ne.symm (hM1.ne g hg))]; exact hM1.x
      · replace hr5 : Row m5 3 1 q cq lab.length ((intsL (mixL (fun k => if k = (b : Int) then (a : Int) else k) lab i)).set i (.int .i64 (a : Int))) := hr5
        rw [if_pos h2'] at hset
        rw [intsL_set, hset] at hr5
        exact hr5
    · replace h2 : (labAt lab i == (b : Int)) = false := h2
      have h2' : labAt lab i ≠ (b : Int) := by simpa using h2
      have hsame := mixL_same (fun k => if k = (b : Int) then (a : Int) else k) lab i hi (if_neg h2')
      refine .again rfl ⟨lab.length - (i + 1), by omega, i + 1, by omega, rfl, ?_, by rw [hsame]; exact hM1⟩
      (simp only [evE, liE, lO, lU, snd, Sh.uss, Sh.us, atAddr, map_add0, List.append_nil]); rw [add_i64 i (by omega)]
  · have : i = lab.length := by omega
    subst this
    rw [mixL_all, mixL_join hab] at hM1
    refine .loop (fun n us m => ∃ i : Nat, i ≤ 16 ∧ n = 16 - i ∧ us = [.i i] ∧ ClM m xb q cq lab.length (uniteL lab a b) (jF a b i f) gap) 16 ⟨0, Nat.zero_le _, rfl, rfl, hM1⟩ ?_
    rintro n us m _ ⟨i, hi, rfl, rfl, hM2⟩
    refine .env (by (try simp only [liE, lO, lU, snd, aN]); rfl) (.ite (fun h1 => ?_) (fun h1 => ?_)) <;> ((try simp only [evE, liE, lO, lU, snd] at h1); (try simp only [cmE] at h1))
    · have hi : i < 16 := by omega
      generalize hg : jF a b i f = g at *
      have ha16 : a < 16 := by omega
      have hb16 : b < 16 := by omega
      have x1 := ccells_at (slv q lab.length cq) g gap a i ha16 hi
      have x2 := ccells_at (slv q lab.length cq) g gap b i hb16 hi
      refine .chk (by first | rfl | (((try simp only [evE, liE, lO, lU, snd]); (try simp only [cmE])); simp; omega)) (.chk (by first | rfl | (((try simp only [evE, liE, lO, lU, snd]); (try simp only [cmE])); simp; omega)) (.chk (by first | rfl | (((try simp only [evE, liE, lO, lU, snd]); (try simp only [cmE])); simp; omega)) (.chk (by first | rfl | (((try simp only [evE, liE, lO, lU, snd]); (try simp only [cmE])); simp; omega)) (.chk (by first | rfl | (((try simp only [evE, liE, lO, lU, snd]); (try simp only [cmE])); simp; omega)) (.load1 (.int .i64 (g a i).1) _ _ (1 + a * 32 + i * 2) rfl (by show ((1 : Int) + (a : Int) * ((32 : Nat) : Int)) + (i : Int) * ((2 : Nat) : Int) = _; omega) (fun g => cells_of_mem g hM2.x) x1.1 (.env (by (try simp only [liE, lO, lU, snd, aN]); rfl) ?_))))))
      refine .chk (by first | rfl | (((try simp only [evE, liE, lO, lU, snd]); (try simp only [cmE])); simp; omega)) (.chk (by first | rfl | (((try simp only [evE, liE, lO, lU, snd]); (try simp only [cmE])); simp; omega)) (.chk (by first | rfl | (((try simp only [evE, liE, lO, lU, snd]); (try simp only [cmE])); simp; omega)) (.chk (by first | rfl | (((try simp only [evE, liE, lO, lU, snd]); (try simp only [cmE])); simp; omega)) (.chk (by first | rfl | (((try simp only [evE, liE, lO, lU, snd]); (try simp only [cmE])); simp; omega)) (.load1 (.int .i64 (g b i).1) _ _ (1 + b * 32 + i * 2) rfl (by show ((1 : Int) + (b : Int) * ((32 : Nat) : Int)) + (i : Int) * ((2 : Nat) : Int) = _; omega) (fun g => cells_of_mem g hM2.x) x2.1 (.env (by (try simp only [liE, lO, lU, snd, aN]); rfl) ?_))))))
      refine .chk (by first | rfl | (((try simp only [evE, liE, lO, lU, snd]); (try simp only [cmE])); simp; omega)) (.chk (by first | rfl | (((try simp only [evE, liE, lO, lU, snd]); (try simp only [cmE])); simp; omega)) (.chk (by first | rfl | (((try simp only [evE, liE, lO, lU, snd]); (try simp only [cmE])); simp; omega)) (.chk (by first | rfl | (((try simp only [evE, liE, lO, lU, snd]); (try simp only [cmE])); simp; omega)) (.chk (by first | rfl | (((try simp only [evE, liE, lO, lU, snd]); (try simp only [cmE])); simp; omega)) (storeC (updC g a i (ar .add .i64 (g a i).1 (g b i).1, (g a i).2)) (1 + a * 32 + i * 2) hM2 (by simp only [atAddr, IT.eval, Env.int, Env.ptr, List.getElem?_cons_succ, List.getElem?_cons_zero, Option.map_some, addr_add]; rw [off2, Nat.zero_add]) (by show _ + 1 ≤ 514; omega) (by show putAt _ _ [Value.int .i64 (ar .add .i64 (g a i).1 (g b i).1)] = _; exact ccells_putA _ _ _ a i _ ha16 hi) (fun m3 hM3 => ?_))))))
      have x3 := ccells_at (slv q lab.length cq) (updC g a i (ar .add .i64 (g a i).1 (g b i).1, (g a i).2)) gap a i ha16 hi
      have x4 := ccells_at (slv q lab.length cq) (updC g a i (ar .add .i64 (g a i).1 (g b i).1, (g a i).2)) gap b i hb16 hi
      rw [updC_at] at x3
      rw [updC_ne _ _ (by omega)] at x4
      refine .chk (by first | rfl | (((try simp only [evE, liE, lO, lU, snd]); (try simp only [cmE])); simp; omega)) (.chk (by first | rfl | (((try simp only [evE, liE, lO, lU, snd]); (try simp only [cmE])); simp; omega)) (.chk (by first | rfl | (((try simp only [evE, liE, lO, lU, snd]); (try simp only [cmE])); simp; omega)) (.chk (by first | rfl | (((try simp only [evE, liE, lO, lU, snd]); (try simp only [cmE])); simp; omega)) (.chk (by first | rfl | (((try simp only [evE, liE, lO, lU, snd]); (try simp only [cmE])); simp; omega)) (.load1 (.int .i64 (g a i).2) _ _ (1 + a * 32 + i * 2 + 1) rfl (by show ((1 : Int) + (a : Int) * ((32 : Nat) : Int)) + (i : Int) * ((2 : Nat) : Int) + (1 : Int) * ((1 : Nat) : Int) = _; omega) (fun g => cells_of_mem g hM3.x) x3.2 (.env (by (try simp only [liE, lO, lU, snd, aN]); rfl) ?_))))))
      refine .chk (by first | rfl | (((try simp only [evE, liE, lO, lU, snd]); (try simp only [cmE])); simp; omega)) (.chk (by first | rfl | (((try simp only [evE, liE, lO, lU, snd]); (try simp only [cmE])); simp; omega)) (.chk (by first | rfl | (((try simp only [evE, liE, lO, lU, snd]); (try simp only [cmE])); simp; omega)) (.chk (by first | rfl | (((try simp only [evE, liE, lO, lU, snd]); (try simp only [cmE])); simp; omega)) (.chk (by first | rfl | (((try simp only [evE, liE, lO, lU, snd]); (try simp only [cmE])); simp; omega)) (.load1 (.int .i64 (g b i).2) _ _ (1 + b * 32 + i * 2 + 1) rfl (by show ((1 : Int) + (b : Int) * ((32 : Nat) : Int)) + (i : Int) * ((2 : Nat) : Int) + (1 : Int) * ((1 : Nat) : Int) = _; omega) (fun g => cells_of_mem g hM3.x) x4.2 (.env (by (try simp only [liE, lO, lU, snd, aN]); rfl) ?_))))))
      refine .chk (by first | rfl | (((try simp only [evE, liE, lO, lU, snd]); (try simp only [cmE])); simp; omega)) (.chk (by first | rfl | (((try simp only [evE, liE, lO, lU, snd]); (try simp only [cmE])); simp; omega)) (.chk (by first | rfl | (((try simp only [evE, liE, lO, lU, snd]); (try simp only [cmE])); simp; omega)) (.chk (by first | rfl | (((try simp only [evE, liE, lO, lU, snd]); (try simp only [cmE])); simp; omega)) (.chk (by first | rfl | (((try simp only [evE, liE, lO, lU, snd]); (try simp only [cmE])); simp; omega)) (storeC (updC g a i (ar .add .i64 (g a i).1 (g b i).1, ar .add .i64 (g a i).2 (g b i).2)) (1 + a * 32 + i * 2 + 1) hM3 (by simp only [atAddr, IT.eval, Env.int, Env.ptr, List.getElem?_cons_succ, List.getElem?_cons_zero, Option.map_some, addr_add]; rw [offB, Nat.zero_add]) (by show _ + 1 ≤ 514; omega) (by show putAt _ _ [Value.int .i64 (ar .add .i64 (g a i).2 (g b i).2)] = _; rw [ccells_putB _ _ _ a i _ ha16 hi, updC_at, updC_updC]) (fun m4 hM4 => ?_))))))
      have x5 := ccells_at (slv q lab.length cq) (updC g a i (ar .add .i64 (g a i).1 (g b i).1, ar .add .i64 (g a i).2 (g b i).2)) gap a i ha16 hi
      rw [updC_at] at x5
      refine .chk (by first | rfl | (((try simp only [evE, liE, lO, lU, snd]); (try simp only [cmE])); simp; omega)) (.chk (by first | rfl | (((try simp only [evE, liE, lO, lU, snd]); (try simp only [cmE])); simp; omega)) (.chk (by first | rfl | (((try simp only [evE, liE, lO, lU, snd]); (try simp only [cmE])); simp; omega)) (.chk (by first | rfl | (((try simp only [evE, liE, lO, lU, snd]); (try simp only [cmE])); simp; omega)) (.load2 _ (1 + a * 32 + i * 2) _ _ (by show ((1 : Int) + (a : Int) * ((32 : Nat) : Int)) + (i : Int) * ((2 : Nat) : Int) = _; omega) x5.1 x5.2 (fun g => cells_of_mem g hM4.x) (.env (by (try simp only [liE, lO, lU, snd, aN]); rfl) ?_)))))
      refine .chk (by first | rfl | (((try simp only [evE, liE, lO, lU, snd]); (try simp only [cmE])); simp; omega)) (.chk (by first | rfl | (((try simp only [evE, liE, lO, lU, snd]); (try simp only [cmE])); simp; omega)) (.chk (by first | rfl | (((try simp only [evE, liE, lO, lU, snd]); (try simp only [cmE])); simp; omega)) (.chk (by first | rfl | (((try simp only [evE, liE, lO, lU, snd]); (try simp only [cmE])); simp; omega)) (storeC (updC (updC g a i (ar .add .i64 (g a i).1 (g b i).1, ar .add .i64 (g a i).2 (g b i).2)) i a (ar .add .i64 (g a i).1 (g b i).1, ar .add .i64 (g a i).2 (g b i).2)) (1 + i * 32 + a * 2) hM4 (by simp only [atAddr, IT.eval, Env.int, Env.ptr, List.getElem?_cons_succ, List.getElem?_cons_zero, Option.map_some, addr_add]; rw [off2, Nat.zero_add]) (by show _ + 2 ≤ 514; omega) (by show putAt _ _ [Value.int .i64 (ar .add .i64 (g a i).1 (g b i).1), Value.int .i64 (ar .add .i64 (g a i).2 (g b i).2)] = _; exact ccells_put _ _ _ i a (ar .add .i64 (g a i).1 (g b i).1, ar .add .i64 (g a i).2 (g b i).2) hi ha16) (fun m5 hM5 => ?_)))))
      refine .again rfl ⟨16 - (i + 1), by omega, i + 1, by omega, rfl, ?_, ?_⟩
      · (simp only [evE, liE, lO, lU, snd, Sh.uss, Sh.us, atAddr, map_add0, List.append_nil]); rw [add_i64 i (by omega)]
      · show ClM _ _ _ _ _ _ (updC (updC (jF a b i f) a i _) i a _) _
        rw [hg]; exact hM5
    · have : i = 16 := by omega
      subst this
      exact .ret rfl ⟨rfl, hM2⟩
end Go.Proofs.YthabfpagilbplaaDoor
/- Chapter 19: Average. -/
namespace Go.Proofs.YthabfpagilbplaaDoor
open Go Go.Sy Go.RowKit
def _root_.Go.Sy.Mem.only (m : Mem) (xb : Nat) (q : Option Addr) : Mem := fun b => if b = xb ∨ q = some ⟨b, 0, none⟩ then m b else none
theorem only_sub {m : Mem} {xb : Nat} {q : Option Addr} {b : Nat} {o : Obj} (h : m.only xb q b = some o) : m b = some o := by
  unfold Mem.only at h; split at h
  · exact h
  · cases h
theorem ClM.only {m : Mem} {xb : Nat} {q : Option Addr} {cq n : Nat} {lab : List Int} {f : Nat → Nat → Int × Int} {gap : Int} (h : ClM m xb q cq n lab f gap) : ClM (m.only xb q) xb q cq n lab f gap :=
  ⟨(if_pos (.inl rfl)).trans h.x, h.row.keep fun g hg _ => if_pos (.inr hg), h.ne⟩
theorem minus_join {m mo mq : Mem} {b : Nat} (h : mo b ≠ none ∨ m b = none) : (m.minus mo).join mq b = mq b := by
  have : m.minus mo b = none := by
    unfold Mem.minus
    cases e : mo b with
    | some o => rfl
    | none =>
      rcases h with h | h
      · exact absurd e h
      · exact h
  exact join_new this
theorem ratS_small {ws : List Int} {gap : Int} {l : List FD} (hc : checkC ws gap = 0) (hw : ∀ f ∈ l, checkW f.w.w = 0) {lab : List Int} (hl : lab.length ≤ 16) (a b : Nat) : 0 ≤ (ratS ws gap l lab a b).1 ∧ (ratS ws gap l lab a b).1 < 2 ^ 62 ∧ 0 < (ratS ws gap l lab a b).2 ∧ (ratS ws gap l lab a b).2 < 2 ^ 62 := (sumS_bound hc hw hl a b).1.rat
theorem LSok.small {ws : List Int} {gap : Int} {l : List FD} (hc : checkC ws gap = 0) (hw : ∀ f ∈ l, checkW f.w.w = 0) {lab : List Int} (hl : lab.length ≤ 16) {s : LS} (h : LSok (ratS ws gap l lab) lab s) : s.i < 0 ∨ (0 ≤ s.r.1 ∧ s.r.1 < 2 ^ 62 ∧ 0 < s.r.2 ∧ s.r.2 < 2 ^ 62) := by
  rcases h with ⟨h, _⟩ | ⟨a, b, rfl, _⟩
  · exact .inl (by omega)
  · exact .inr (ratS_small hc hw hl a b)
theorem c_Average (p : Option Addr) (cp : Nat) (l : List FD) (pc : Option Addr) (cc : Nat) (ws : List Int) (gap N D : Int) (hcp : l.length ≤ cp) (hl : l.length < 2 ^ 63) (hok : ∀ f ∈ l, Wok f.w.w) (hN : N < 2 ^ 63) (hD : D < 2 ^ 63) :
    FnM Tryd.prog n_cognates_Average [slv p l.length cp, costs pc ws.length cc gap, .agg #[.int .i64 N, .int .i64 D]] (fun R => FormsAt R p l ∧ CostsAt R pc ws ∧ TabOk R) fun v mq _ => ∃ q cq, v = .tuple #[slv q (averageE ws gap l N D).1.length cq, .int .i64 (averageE ws gap l N D).2] ∧ RowI mq q cq (averageE ws gap l N D).1 := by
  refine FnM.of S_cognates_Average mx [.p p, .i l.length, .i cp, .p pc, .i ws.length, .i cc, .i gap, .i N, .i D] rfl rfl fun c hp => .alloc fun b0 => .alloc fun b1 => .callV (c_check19 p cp l pc cc ws gap N D hl hok) (fun g => ⟨hp.1.mono g.R, hp.2.1.mono g.R⟩) (.env (by (try simp only [liE, lO, lU, snd, aN]); rfl) (.ite (fun h1 => ?_) (fun h1 => ?_))) <;> ((try simp only [evE, liE, lO, lU, snd] at h1); (try simp only [cmE] at h1))
  · refine .ret rfl ?_
    unfold averageE
    rw [if_pos h1]
    exact ⟨none, 0, rfl, .empty _⟩
  have h0 : check19 ws gap l N D = 0 := by simpa using h1
  unfold averageE
  rw [if_neg (by simp [h0])]
  obtain ⟨hc, h16, hw, hlim⟩ := check19_ok h0
  have hlim' : 0 ≤ N ∧ 0 < D := by simp [limB] at hlim; omega
  have hal : (aloneL (l.map (·.has))).length = l.length := by rw [aloneL_len, List.length_map]
  refine .callM (c_apart p cp l pc cc ws gap hcp h16 hok hc hw) rfl rfl (fun g => ⟨hp.1.mono g.R, hp.2.1.mono g.R, hp.2.2.mono g.R⟩) ?_
  rintro v mq hfr ⟨xb, q, cq, rfl, hM⟩
  refine ⟨[.p (some ⟨xb, 0, none⟩), .i 0], uOk_of rfl, rfl, .env (by (try simp only [liE, lO, lU, snd, aN]); rfl) (.alloc fun b2 => .no rfl ?_)⟩
  rw [show Mem.emp.join mq = mq from rfl]
  generalize hfin : avgN ws gap l N D (mu (aloneL (l.map (·.has)))) (aloneL (l.map (·.has))) = fin
  refine .loop (fun n us m => us = [.p none, .i 0, .i 0, .i 0] ∧ ∃ (lab : List Int) (f : Nat → Nat → Int × Int), ClM m xb q cq l.length lab f gap ∧ lab.length = l.length ∧ (∃ E, Canon (l.map (·.has)) E lab) ∧ SumOk ws gap l lab f ∧ mu lab ≤ n ∧ avgN ws gap l N D n lab = fin) (mu (aloneL (l.map (·.has)))) ⟨rfl, aloneL (l.map (·.has)), tabX ws gap l, hM, hal, ⟨_, Canon.alone _⟩, SumOk.alone, Nat.le_refl _, hfin⟩ ?_
  rintro n us m _ ⟨rfl, lab, f, hM, hlen, ⟨E, hC⟩, hS, hmu, hav⟩
  have hl16 : lab.length ≤ 16 := by omega
  refine .env (by (try simp only [liE, lO, lU, snd, aN]); rfl) (.alloc fun b3 => .alloc fun b4 => .alloc fun b5 => ?_)
  refine .callM (c_pairs19 xb) rfl rfl (fun _ => trivial) ?_
  rintro v m3 hfr3 ⟨bx, rfl, rfl⟩
  refine ⟨[.v _], ⟨_, rfl, rfl⟩, rfl, ?_⟩
  refine .range n___cognates_classes__pairs_1 _ ((pairsN lab).map (pairU l.length)) (fun w => m.mv.le (Mv.of w)) (boxP bx xb) m
    (fun k us m' => (us = [.i (leastL (ratS ws gap l lab) lab k).i, .i (leastL (ratS ws gap l lab) lab k).k, .i (leastL (ratS ws gap l lab) lab k).r.1, .i (leastL (ratS ws gap l lab) lab k).r.2] ∧ k ≤ (pairsN lab).length) ∧ m = m') (fun _ _ _ => False)
    rfl (by kernel_rfl) rfl ?_ ?_ ?_ ?_ ?_ ?_ ?_ (fun _ _ _ _ _ hE => hE.elim)
  · intro k hk
    cases hq : boxP bx xb k with
    | none => rfl
    | some o => exact absurd (hfr3 k (by rw [hq]; simp)).1 hk
  · intro ux hx
    obtain ⟨z, _, rfl⟩ := List.mem_map.1 hx; rfl
  · have := it_pairs xb bx q cq lab hl16 m.mv ⟨by rw [hlen]; exact (Mem.mv_cells hM.x).head, Mem.mv_row hM.row⟩
    rw [List.map_map]
    rw [hlen] at this
    exact this
  · exact ⟨⟨rfl, Nat.zero_le _⟩, rfl⟩
  · rintro k us m' w ⟨_, rfl⟩ hw
    exact Mem.mv_le (fun _ _ h => h) hw
  · rintro k us ux m' _ hx ⟨⟨rfl, hkl⟩, rfl⟩
    rw [List.getElem?_map, Option.map_eq_some_iff] at hx
    obtain ⟨t, ht, rfl⟩ := hx
    have hk1 : k < (pairsN lab).length := (List.getElem?_eq_some_iff.1 ht).1
    have hstep : leastL (ratS ws gap l lab) lab (k + 1) = if (leastL (ratS ws gap l lab) lab k).i < 0 ∨ leF (leastL (ratS ws gap l lab) lab k).r (ratS ws gap l lab (t / lab.length) (t % lab.length)) = false then ⟨((t / lab.length : Nat) : Int), ((t % lab.length : Nat) : Int), ratS ws gap l lab (t / lab.length) (t % lab.length)⟩ else leastL (ratS ws gap l lab) lab k := leastL_succ (ratS ws gap l lab) lab k t ht
    have hok := leastL_ok (ratS ws gap l lab) lab k (by omega)
    have hsm := hok.small hc hw hl16
    obtain ⟨pa, pb, pab, la, lb⟩ := pairsN_mem ht
    rw [hlen] at pa pb pab la lb hstep
    unfold pairU
    generalize t / l.length = a at *
    generalize t % l.length = b at *
    generalize leastL (ratS ws gap l lab) lab k = s at *
    have hfab := hS a b (by omega) (by omega) (by omega) la lb
    have hbnd := sumS_bound hc hw hl16 (a : Int) (b : Int)
    have hcall := c_ratio xb (slv q l.length cq) f gap a b (by omega) (by omega) (by rw [hfab]; exact hbnd.1)
    have hrs := ratS_small hc hw hl16 a b
    rw [hfab, show ratC gap (sumS ws gap l lab a b) = ratS ws gap l lab a b from rfl] at hcall
    generalize ratS ws gap l lab a b = r at *
    refine .callV hcall (fun g => cells_of_mem g hM.x) (.env (by (try simp only [liE, lO, lU, snd, aN]); rfl) (.alloc fun b6 => .ite (fun h2 => ?_) (fun h2 => ?_))) <;> ((try simp only [evE, liE, lO, lU, snd] at h2); (try simp only [cmE] at h2))
    · refine .leave (.inl ⟨rfl, ⟨?_, hk1⟩, rfl⟩)
      rw [hstep, if_pos (.inl h2)]; rfl
    · have hs2 := hsm.resolve_left (by omega)
      refine .callV (c_cmp r s.r (by omega) (by omega) (by omega) (by omega)) (fun _ => trivial) (.env (by (try simp only [liE, lO, lU, snd, aN]); rfl) (.ite (fun h3 => ?_) (fun h3 => ?_))) <;> ((try simp only [evE, liE, lO, lU, snd] at h3); (try simp only [cmE] at h3))
      · rw [cmpF_lt] at h3
        refine .leave (.inl ⟨rfl, ⟨?_, hk1⟩, rfl⟩)
        rw [hstep, if_pos (.inr h3)]; rfl
      · have h3' : leF s.r r ≠ false := fun e => by have := (cmpF_lt r s.r).2 e; omega
        refine .leave (.inl ⟨rfl, ⟨?_, hk1⟩, rfl⟩)
        rw [hstep, if_neg (fun h => h.elim (fun h => by omega) h3')]; rfl
  · rintro us m' _ ⟨⟨rfl, _⟩, rfl⟩
    rw [List.length_map]
    have hok : LSok (ratS ws gap l lab) lab (leastA ws gap l lab) := leastL_ok (ratS ws gap l lab) lab _ (Nat.le_refl _)
    have hsm := hok.small hc hw hl16
    have hstop := avg_stop (ws := ws) (gap := gap) (l := l) (N := N) (D := D) (lab := lab)
    have hgo := avg_go (ws := ws) (gap := gap) (l := l) (N := N) (D := D) hC hmu
    show DenM _ _ _ _ _ (_ ++ [U.i (leastA ws gap l lab).i, .i (leastA ws gap l lab).k, .i (leastA ws gap l lab).r.1, .i (leastA ws gap l lab).r.2] ++ [U.i 0]) _ _ _
    generalize leastA ws gap l lab = s at *
    have hret : ∀ {v : Value}, v = .tuple #[slv q l.length cq, .int .i64 0] → avgN ws gap l N D n lab = lab → ∃ q cq, v = .tuple #[slv q fin.length cq, .int .i64 0] ∧ RowI m q cq fin := fun hv he => by
      rw [he] at hav; subst hav
      exact ⟨q, cq, by rw [hv, hlen], .of (by rw [hlen]; exact hM.row)⟩
    refine .env (by (try simp only [liE, lO, lU, snd, aN]); rfl) (.ite (fun h2 => ?_) (fun h2 => ?_)) <;> ((try simp only [evE, liE, lO, lU, snd] at h2); (try simp only [cmE] at h2))
    · exact .chk rfl (.chk rfl (.loadS (ccells (slv q l.length cq) f gap) 0 q l.length cq rfl rfl (fun g => cells_of_mem g hM.x) (.env (by (try simp only [liE, lO, lU, snd, aN]); rfl) (.ret rfl (hret rfl (hstop (.inl h2) n))))))
    · have hs2 := hsm.resolve_left (by omega)
      refine .callV (c_cmp s.r (N, D) (by omega) (by omega) (by dsimp only; omega) (by dsimp only; omega)) (fun _ => trivial) (.env (by (try simp only [liE, lO, lU, snd, aN]); rfl) (.ite (fun h3 => ?_) (fun h3 => ?_))) <;> ((try simp only [evE, liE, lO, lU, snd] at h3); (try simp only [cmE] at h3))
      · have h3' := (cmpF_gt s.r (N, D)).1 h3
        exact .chk rfl (.chk rfl (.loadS (ccells (slv q l.length cq) f gap) 0 q l.length cq rfl rfl (fun g => cells_of_mem g hM.x) (.env (by (try simp only [liE, lO, lU, snd, aN]); rfl) (.ret rfl (hret rfl (hstop (.inr h3') n))))))
      · have h3' : ¬ (s.i < 0 ∨ leF s.r (N, D) = false) := fun h => h.elim (fun h => by omega) fun e => by have := (cmpF_gt s.r (N, D)).2 e; omega
        obtain ⟨a, b, n', rfl, hab, hb, la, lb, rfl, hmu', hav', hC'⟩ := hgo h3'
        have hMo : ClM (m.only xb q) xb q cq lab.length lab f gap := by rw [hlen]; exact hM.only
        refine .callO (c_join (m.only xb q) xb q cq lab f gap a b hl16 hab hb hMo) rfl rfl (fun b o => only_sub) ?_
        rintro v mq hfr ⟨rfl, hM2⟩
        have hj : ∀ g, mq g ≠ none → ((m.minus (m.only xb q)).join mq) g = mq g := fun g hg => minus_join ((hfr g hg).imp id fun h => h.1)
        refine ⟨[], rfl, rfl, .env (by (try simp only [liE, lO, lU, snd, aN]); rfl) (.again rfl ⟨n', by omega, rfl, uniteL lab a b, jF a b 16 f, ⟨?_, ?_, hM2.ne⟩, by rw [uniteL_len]; exact hlen, hC', hS.join hc hw hl16 hab hb la lb, hmu', by rw [← hav']; exact hav⟩)⟩
        · rw [hj xb (by rw [hM2.x]; simp), hM2.x, hlen]
        · rw [← hlen]; exact hM2.row.keep fun g _ hg => hj g hg
end Go.Proofs.YthabfpagilbplaaDoor
/- Chapter 19: Average of the specification. -/
namespace Go.Proofs.YthabfpagilbplaaDoor
open Go Go.Sy Go.RowKit
end Go.Proofs.YthabfpagilbplaaDoor
/- Chapter 19: Average of the specification, walked. -/
namespace Go.Proofs.YthabfpagilbplaaDoor
open Go Go.Sy Go.RowKit
end Go.Proofs.YthabfpagilbplaaDoor
