/- Chapter 30: paradigms in memory; their checks. -/
import Derived.Test.YtpbbnmjkbfbelaaDoorJo
import Derived.Test.YtpbbnmjkbfbelaaDoorTe
set_option linter.unusedSimpArgs false
set_option linter.unusedVariables false
namespace Go.Sy
open Go Go.RowKit
/-- A form; a row of forms. -/
structure FD where
  has : Bool
  w : WD
structure LD where
  p : Option Addr
  cap : Nat
  fs : List FD
def LD.v (r : LD) : Value := slv r.p r.fs.length r.cap
def fcells (l : List FD) : List Value := l.flatMap fun x => [.bool x.has, x.w.v]
def FormsAt (R : Mv) (q : Option Addr) (l : List FD) : Prop := Cells R q (fcells l) ∧ ∀ x ∈ l, WordAt R x.w.p x.w.w
theorem FormsAt.mono {R S : Mv} {q : Option Addr} {l : List FD} (h : FormsAt R q l) (hle : R.le S) : FormsAt S q l := ⟨h.1.mono hle, fun x hx => (h.2 x hx).mono hle⟩
def TableAt (R : Mv) (q : Option Addr) (t : List LD) : Prop := Cells R q (t.map LD.v) ∧ ∀ r ∈ t, FormsAt R r.p r.fs
theorem TableAt.mono {R S : Mv} {q : Option Addr} {t : List LD} (h : TableAt R q t) (hle : R.le S) : TableAt S q t := ⟨h.1.mono hle, fun r hr => (h.2 r hr).mono hle⟩
theorem fcells_len (l : List FD) : (fcells l).length = l.length * 2 := by
  induction l with
  | nil => rfl
  | cons s w ih => simp only [fcells, List.flatMap_cons, List.length_append, List.length_cons] at *; rw [ih]; simp; omega
theorem fcells_at (w : List FD) (j : Nat) (h : j < w.length) : (fcells w)[j * 2]? = some (.bool w[j].has) ∧ (fcells w)[j * 2 + 1]? = some w[j].w.v := by
  induction w generalizing j with
  | nil => simp at h
  | cons s w ih =>
    cases j with
    | zero => exact ⟨rfl, rfl⟩
    | succ j =>
      have := ih j (by simpa using h)
      simp only [fcells, List.flatMap_cons, List.cons_append, List.nil_append] at *
      rw [show (j + 1) * 2 = j * 2 + 2 by omega, show j * 2 + 2 + 1 = (j * 2 + 1) + 2 by omega]
      simpa using this
section
variable {P : Program} {c : Cx} {L : List Nat} {ρ : Env} {blks : List Blk} {m : Mem} {R : Value → HW → Prop} {Dn : Nat → List U → HW → Prop} {A : List (List U → HW → Prop)}
theorem DenM.loadLD {i : Nat} {I len : IT} {k : Tree} (t : List LD) (j : Nat) (hj : j < t.length) (hw : Good c L m → Cells (vw c L ρ blks m) (ρ.ptr i) (t.map LD.v)) (hk : DenM P R Dn k L (ρ ++ [.p t[j].p, .i t[j].fs.length, .i t[j].cap]) c m A) (hI : I.eval ρ = (j : Int) := by rfl) (hn : len.eval ρ = (t.length : Int) := by rfl) :
    DenM P R Dn (.chk (.pick (.cmp .geq I (.lit 0)) (.pick (.cmp .lss I len) (.some i) (.lit false)) (.lit false)) (.load i (.off I 1 (.lit 0)) [.sl] blks k)) L ρ c m A :=
  .loadSl (t.map LD.v) j t.length _ _ _ hj (by simp [hj, LD.v]) hw hk hI hn
theorem form_at (ρ : Env) (L : List Nat) (x : FD) : SV.dens L (ρ ++ [.b x.has, .p x.w.p, .i x.w.w.length, .i x.w.cap]) (Sh.freshs [.bool, .sl] ρ.length).1 = [.bool x.has, x.w.v] := by
  have e1 := getElem_env ρ [.b x.has, .p x.w.p, .i x.w.w.length, .i x.w.cap] 0
  rw [Nat.add_zero] at e1
  have e2 := sl_at (ρ ++ [.b x.has]) L x.w.p x.w.w.length x.w.cap []
  rw [List.append_assoc] at e2
  simp only [List.cons_append, List.nil_append, List.length_append, List.length_cons, List.length_nil] at e2
  simp only [Sh.freshs, Sh.fresh, SV.dens, SV.den, BT.eval, Env.bool] at e1 e2 ⊢
  rw [e1, e2]; rfl
theorem DenM.loadFD {i : Nat} {I len : IT} {k : Tree} (l : List FD) (j : Nat) (hj : j < l.length) (hw : Good c L m → Cells (vw c L ρ blks m) (ρ.ptr i) (fcells l)) (hk : DenM P R Dn k L (ρ ++ [.b l[j].has, .p l[j].w.p, .i l[j].w.w.length, .i l[j].w.cap]) c m A) (hI : I.eval ρ = (j : Int) := by rfl) (hn : len.eval ρ = (l.length : Int) := by rfl) :
    DenM P R Dn (.chk (.pick (.cmp .geq I (.lit 0)) (.pick (.cmp .lss I len) (.some i) (.lit false)) (.lit false)) (.load i (.off I 2 (.lit 0)) [.bool, .sl] blks k)) L ρ c m A := by
  have h := fcells_at l j hj
  refine .elem [.b l[j].has, .p l[j].w.p, .i l[j].w.w.length, .i l[j].w.cap] (fcells l) j l.length hI hn hj rfl hw (by rw [fcells_len]; omega) (fun q v hv => ?_) hk
  rw [form_at] at hv
  match q, hv with
  | 0, hv => simp at hv; rw [← hv]; exact h.1
  | 1, hv => simp at hv; rw [← hv]; exact h.2
  | q + 2, hv => simp at hv
/-- Whether there is a form; its word: each by a load of its own. -/
theorem DenM.loadHas {i : Nat} {I len : IT} {k : Tree} (l : List FD) (j : Nat) (hj : j < l.length) (hw : Good c L m → Cells (vw c L ρ blks m) (ρ.ptr i) (fcells l)) (hk : DenM P R Dn k L (ρ ++ [.b l[j].has]) c m A) (hI : I.eval ρ = (j : Int) := by rfl) (hn : len.eval ρ = (l.length : Int) := by rfl) :
    DenM P R Dn (.chk (.pick (.cmp .geq I (.lit 0)) (.pick (.cmp .lss I len) (.some i) (.lit false)) (.lit false)) (.chk (.pick (.cmp .geq (.off I 2 (.lit 0)) (.lit 0)) (.some i) (.lit false)) (.load i (.off I 2 (.lit 0)) [.bool] blks k))) L ρ c m A := fun g => by
  have h := fcells_at l j hj
  obtain ⟨b, o, hpe⟩ := (hw g).some (i := j * 2) (by rw [fcells_len]; omega)
  have h1 : (BT.pick (.cmp .geq I (.lit 0)) (.pick (.cmp .lss I len) (.some i) (.lit false)) (.lit false)).eval ρ = true := by
    simp only [BT.eval, IT.eval, hI, hn, hpe, cm, pick_and]; simp; omega
  have h2 : (BT.pick (.cmp .geq (.off I 2 (.lit 0)) (.lit 0)) (.some i) (.lit false)).eval ρ = true := by
    simp only [BT.eval, IT.eval, hI, hpe, cm, pick_and]; simp; omega
  refine DenM.chk h1 (.chk h2 (.load1 (.bool l[j].has) (ρ.ptr i) (fcells l) (j * 2) rfl (by simp only [IT.eval, hI]; simp) hw h.1 hk rfl ?_)) g
  have e1 := getElem_env ρ [.b l[j].has] 0
  rw [Nat.add_zero] at e1
  simp only [Sh.freshs, Sh.fresh, SV.dens, SV.den, BT.eval, Env.bool, letU]
  rw [e1]; rfl
theorem DenM.loadFW {i : Nat} {I len : IT} {k : Tree} (l : List FD) (j : Nat) (hj : j < l.length) (hw : Good c L m → Cells (vw c L ρ blks m) (ρ.ptr i) (fcells l)) (hk : DenM P R Dn k L (ρ ++ [.p l[j].w.p, .i l[j].w.w.length, .i l[j].w.cap]) c m A) (hI : I.eval ρ = (j : Int) := by rfl) (hn : len.eval ρ = (l.length : Int) := by rfl) :
    DenM P R Dn (.chk (.pick (.cmp .geq I (.lit 0)) (.pick (.cmp .lss I len) (.some i) (.lit false)) (.lit false)) (.chk (.pick (.cmp .geq (.off I 2 (.lit 0)) (.lit 0)) (.some i) (.lit false)) (.load i (.off (.lit 1) 1 (.off I 2 (.lit 0))) [.sl] blks k))) L ρ c m A := fun g => by
  have h := fcells_at l j hj
  obtain ⟨b, o, hpe⟩ := (hw g).some (i := j * 2) (by rw [fcells_len]; omega)
  have h1 : (BT.pick (.cmp .geq I (.lit 0)) (.pick (.cmp .lss I len) (.some i) (.lit false)) (.lit false)).eval ρ = true := by
    simp only [BT.eval, IT.eval, hI, hn, hpe, cm, pick_and]; simp; omega
  have h2 : (BT.pick (.cmp .geq (.off I 2 (.lit 0)) (.lit 0)) (.some i) (.lit false)).eval ρ = true := by
    simp only [BT.eval, IT.eval, hI, hpe, cm, pick_and]; simp; omega
  exact DenM.chk h1 (.chk h2 (.loadS (fcells l) (j * 2 + 1) l[j].w.p l[j].w.w.length l[j].w.cap (by simp only [IT.eval, hI]; simp <;> omega) h.2 hw hk)) g
/-- The first row of a table. -/
theorem DenM.loadL0 {i : Nat} {len : IT} {k : Tree} (t : List LD) (hj : 0 < t.length) (hw : Good c L m → Cells (vw c L ρ blks m) (ρ.ptr i) (t.map LD.v)) (hk : DenM P R Dn k L (ρ ++ [.p t[0].p, .i t[0].fs.length, .i t[0].cap]) c m A) (hn : len.eval ρ = (t.length : Int) := by rfl) :
    DenM P R Dn (.chk (.pick (.cmp .lss (.lit 0) len) (.some i) (.lit false)) (.load i (.lit 0) [.sl] blks k)) L ρ c m A := fun g => by
  obtain ⟨b, o, hpe⟩ := (hw g).some (i := 0) (by simp; omega)
  have h1 : (BT.pick (.cmp .lss (.lit 0) len) (.some i) (.lit false)).eval ρ = true := by
    simp only [BT.eval, IT.eval, hn, hpe, cm, pick_and]; simp; omega
  exact DenM.chk h1 (.loadS (t.map LD.v) 0 t[0].p t[0].fs.length t[0].cap rfl (by simp [LD.v, hj]) hw hk) g
end
/-- A form that is none has no word. -/
def blankF (f : FD) : Bool := !f.has && decide (0 < f.w.w.length)
def badRow (n : Nat) (r : LD) : Bool := decide (r.fs.length ≠ n) || r.fs.any blankF
def wide (r : LD) : Bool := decide (r.fs.length > 16)
def tshape (t : List LD) : Int := if t.length > 64 ∨ t.any wide = true then 12 else if t.any (badRow ((t.head?.map (·.fs.length)).getD 0)) = true then 2 else 0
def twords (t : List LD) : List (List Snd) := t.flatMap fun r => r.fs.map (·.w.w)
def checkT (t : List LD) : Int := if tshape t ≠ 0 then tshape t else checkL (twords t)
def FormsOk (t : List LD) : Prop := ∀ r ∈ t, ∀ f ∈ r.fs, Wok f.w.w ∧ f.w.ok
theorem any_false {α : Type} {p : α → Bool} {l : List α} (h : ∀ i (hi : i < l.length), p l[i] = false) : l.any p = false := by
  rw [List.any_eq_false]
  intro x hx
  obtain ⟨i, hi, rfl⟩ := List.getElem_of_mem hx
  simp [h i hi]
theorem any_true {α : Type} {p : α → Bool} {l : List α} {i : Nat} (hi : i < l.length) (h : p l[i] = true) : l.any p = true := List.any_eq_true.2 ⟨l[i], List.getElem_mem hi, h⟩
theorem twords_split {t : List LD} {i k : Nat} (hi : i < t.length) (hk : k < t[i].fs.length) : twords t = twords (t.take i) ++ ((t[i].fs.take k).map (·.w.w) ++ (t[i].fs[k].w.w :: ((t[i].fs.drop (k + 1)).map (·.w.w) ++ twords (t.drop (i + 1))))) := by
  have h : t[i].fs.map (·.w.w) = (t[i].fs.take k).map (·.w.w) ++ (t[i].fs[k].w.w :: (t[i].fs.drop (k + 1)).map (·.w.w)) := by
    conv => lhs; rw [← List.take_append_drop k t[i].fs, List.drop_eq_getElem_cons hk]
    rw [List.map_append, List.map_cons]
  unfold twords
  conv => lhs; rw [← List.take_append_drop i t, List.drop_eq_getElem_cons hi, List.flatMap_append, List.flatMap_cons, h]
  rw [List.append_assoc, List.cons_append]
theorem twords_snoc {t : List LD} {i : Nat} (hi : i < t.length) : twords (t.take (i + 1)) = twords (t.take i) ++ t[i].fs.map (·.w.w) := by
  unfold twords
  rw [List.take_succ_eq_append_getElem hi, List.flatMap_append]; simp
theorem checkL_cons {w : List Snd} {l : List (List Snd)} : checkL (w :: l) = if checkW w ≠ 0 then checkW w else checkL l := rfl
end Go.Sy
namespace Go.Proofs.YtpbbnmjkbfbelaaDoor
open Go Go.Sy Go.RowKit
theorem c_indexT (p : Option Addr) (cp : Nat) (t : List LD) (fv : Value) (hfv : fv.oneCell' = true) (f : LD → Bool) (hl : t.length < 2 ^ 62) (hf : ∀ x ∈ t, FnV Tryd.prog fv [x.v] (fun _ => True) fun v _ _ => v = .bool (f x)) :
    RetP Tryd.prog n_slices_ContainsFunc_____api_Form___api_Form_ [slv p t.length cp, fv] (fun R => Cells R p (t.map LD.v)) (.bool (t.any f)) := by
  have key : RetP Tryd.prog n_slices_IndexFunc_____api_Form___api_Form_ [slv p t.length cp, fv] (fun R => Cells R p (t.map LD.v)) (.int .i64 (match t.findIdx? f with | some i => (i : Int) | none => -1)) := by
    refine Fn.of S_slices_IndexFunc_____api_Form___api_Form_ mx [.p p, .i t.length, .i cp, .v fv] (by simp [Sh.eats, Sh.eat, eatV, eatP, eatS, hfv]) rfl fun c hp => .chk (by ((try simp only [evE, liE, letsOf, letU, snd]); (try simp only [cmE])); omega) ?_
    refine .loop (fun n us _ => ∃ (e : Int) (j : Nat), us = [.i e, .i j] ∧ n + j = t.length ∧ ∀ i (hi : i < t.length), i < j → f t[i] = false) t.length ⟨0, 0, rfl, rfl, fun i hi h => by omega⟩ ?_
    rintro n _ m _ ⟨e, j, rfl, hn, hb⟩
    refine .env (by (try simp only [liE, letsOf, letU, snd, List.append_nil]); rfl) (.ite (fun h2 => ?_) (fun h2 => .ret rfl ?_)) <;> ((try simp only [evE, liE, letsOf, letU, snd] at h2); (try simp only [cmE] at h2))
    · have hj : j < t.length := by omega
      refine .loadLD t j hj (fun g => hp.mono g.R) (.env (by (try simp only [liE, letsOf, letU, snd, List.append_nil]); rfl) (.callvR (hf _ (List.getElem_mem hj)) (fun g => trivial) (fun m' _ => .env (by (try simp only [liE, letsOf, letU, snd, List.append_nil]); rfl) (.ite (fun h3 => .ret rfl ?_) (fun h3 => .again rfl ⟨n - 1, by omega, e, j + 1, ?_, by omega, ?_⟩)))))
      · replace h3 : f t[j] = true := h3
        rw [findIdx?_at hj h3 hb]; rfl
      · (simp only [evE, liE, letsOf, letU, snd, Sh.uss, Sh.us, atAddr, map_add0, List.append_nil]); rw [add_i64 j (by omega)]
      · replace h3 : f t[j] = false := h3
        intro i hi hij
        rcases Nat.lt_or_ge i j with h | h
        · exact hb i hi h
        · have : i = j := by omega
          subst this; exact h3
    · rw [findIdx?_none fun i hi => hb i hi (by omega)]; rfl
  refine Fn.of S_slices_ContainsFunc_____api_Form___api_Form_ mx [.p p, .i t.length, .i cp, .v fv] (by simp [Sh.eats, Sh.eat, eatV, eatP, eatS, hfv]) rfl fun c hp => .callV key (fun g => hp.mono g.R) (.env (by (try simp only [liE, letsOf, letU, snd, List.append_nil]); rfl) (.ret rfl ?_))
  cases h : t.findIdx? f with
  | none =>
    rw [List.findIdx?_eq_none_iff] at h
    have : t.any f = false := List.any_eq_false.2 fun x hx => by simp [h x hx]
    rw [this]; rfl
  | some i =>
    obtain ⟨hi, h1, _⟩ := List.findIdx?_eq_some_iff_getElem.1 h
    rw [any_true hi h1]
    show Value.bool (cm .geq (i : Int) 0) = _
    simp [cm]
theorem c_indexF (p : Option Addr) (cp : Nat) (t : List FD) (fv : Value) (hfv : fv.oneCell' = true) (f : FD → Bool) (hl : t.length < 2 ^ 62) (hf : ∀ x ∈ t, FnV Tryd.prog fv [.agg #[.bool x.has, x.w.v]] (fun _ => True) fun v _ _ => v = .bool (f x)) :
    RetP Tryd.prog n_slices_ContainsFunc___api_Form_api_Form_ [slv p t.length cp, fv] (fun R => Cells R p (fcells t)) (.bool (t.any f)) := by
  have key : RetP Tryd.prog n_slices_IndexFunc___api_Form_api_Form_ [slv p t.length cp, fv] (fun R => Cells R p (fcells t)) (.int .i64 (match t.findIdx? f with | some i => (i : Int) | none => -1)) := by
    refine Fn.of S_slices_IndexFunc___api_Form_api_Form_ mx [.p p, .i t.length, .i cp, .v fv] (by simp [Sh.eats, Sh.eat, eatV, eatP, eatS, hfv]) rfl fun c hp => .chk (by ((try simp only [evE, liE, letsOf, letU, snd]); (try simp only [cmE])); omega) ?_
    refine .loop (fun n us _ => ∃ (e : Int) (j : Nat), us = [.i e, .i j] ∧ n + j = t.length ∧ ∀ i (hi : i < t.length), i < j → f t[i] = false) t.length ⟨0, 0, rfl, rfl, fun i hi h => by omega⟩ ?_
    rintro n _ m _ ⟨e, j, rfl, hn, hb⟩
    refine .env (by (try simp only [liE, letsOf, letU, snd, List.append_nil]); rfl) (.ite (fun h2 => ?_) (fun h2 => .ret rfl ?_)) <;> ((try simp only [evE, liE, letsOf, letU, snd] at h2); (try simp only [cmE] at h2))
    · have hj : j < t.length := by omega
      refine .loadFD t j hj (fun g => hp.mono g.R) (.env (by (try simp only [liE, letsOf, letU, snd, List.append_nil]); rfl) (.callvR (hf _ (List.getElem_mem hj)) (fun g => trivial) (fun m' _ => .env (by (try simp only [liE, letsOf, letU, snd, List.append_nil]); rfl) (.ite (fun h3 => .ret rfl ?_) (fun h3 => .again rfl ⟨n - 1, by omega, e, j + 1, ?_, by omega, ?_⟩)))))
      · replace h3 : f t[j] = true := h3
        rw [findIdx?_at hj h3 hb]; rfl
      · (simp only [evE, liE, letsOf, letU, snd, Sh.uss, Sh.us, atAddr, map_add0, List.append_nil]); rw [add_i64 j (by omega)]
      · replace h3 : f t[j] = false := h3
        intro i hi hij
        rcases Nat.lt_or_ge i j with h | h
        · exact hb i hi h
        · have : i = j := by omega
          subst this; exact h3
    · rw [findIdx?_none fun i hi => hb i hi (by omega)]; rfl
  refine Fn.of S_slices_ContainsFunc___api_Form_api_Form_ mx [.p p, .i t.length, .i cp, .v fv] (by simp [Sh.eats, Sh.eat, eatV, eatP, eatS, hfv]) rfl fun c hp => .callV key (fun g => hp.mono g.R) (.env (by (try simp only [liE, letsOf, letU, snd, List.append_nil]); rfl) (.ret rfl ?_))
  cases h : t.findIdx? f with
  | none =>
    rw [List.findIdx?_eq_none_iff] at h
    have : t.any f = false := List.any_eq_false.2 fun x hx => by simp [h x hx]
    rw [this]; rfl
  | some i =>
    obtain ⟨hi, h1, _⟩ := List.findIdx?_eq_some_iff_getElem.1 h
    rw [any_true hi h1]
    show Value.bool (cm .geq (i : Int) 0) = _
    simp [cm]
theorem c_shape1 (x : LD) : FnM Tryd.prog n_paradigm_shape_1 [x.v] (fun _ => True) fun v _ _ => v = .bool (wide x) := by
  refine Fn.of S_paradigm_shape_1 mx [.p x.p, .i x.fs.length, .i x.cap] rfl rfl fun c _ => .chk (by ((try simp only [evE, liE, letsOf, letU, snd]); (try simp only [cmE])); omega) (.ret rfl ?_)
  show Value.bool (cm .gtr (x.fs.length : Int) 16) = _
  simp only [cm, wide]
  congr 1
  exact decide_eq_decide.2 (by omega)
theorem c_shape2 (x : FD) : FnM Tryd.prog n_paradigm_shape_2 [.agg #[.bool x.has, x.w.v]] (fun _ => True) fun v _ _ => v = .bool (blankF x) := by
  refine Fn.of S_paradigm_shape_2 mx [.b x.has, .p x.w.p, .i x.w.w.length, .i x.w.cap] rfl rfl fun c _ => .alloc fun b0 => ?_
  refine .join (fun us _ => us = [.b (blankF x)]) (.ite (fun h1 => .chk (by ((try simp only [evE, liE, letsOf, letU, snd]); (try simp only [cmE])); omega) (.again rfl ?_)) (fun h1 => .again rfl ?_)) ?_
  · replace h1 : (!x.has) = true := h1
    show [U.b (cm .gtr (x.w.w.length : Int) 0)] = _
    simp only [cm, blankF, h1, Bool.true_and]
    congr 2
    exact decide_eq_decide.2 (by omega)
  · replace h1 : (!x.has) = false := h1
    show [U.b false] = _
    simp only [blankF, h1, Bool.false_and]
  rintro _ _ _ rfl
  exact .ret rfl rfl
end Go.Proofs.YtpbbnmjkbfbelaaDoor
