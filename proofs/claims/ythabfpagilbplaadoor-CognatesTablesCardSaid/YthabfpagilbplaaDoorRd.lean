/- Chapter 19: entries in memory; Table. -/
import Derived.Test.YthabfpagilbplaaDoorRc
import Derived.Test.YthabfpagilbplaaDoorTi
set_option linter.unusedSimpArgs false
set_option linter.unusedVariables false
namespace Go.Sy
open Go Go.RowKit
/-- An entry: its gloss, and its forms. -/
structure ED where
  g : Value
  p : Option Addr
  cap : Nat
  l : List FD
def ED.v (x : ED) : Value := slv x.p x.l.length x.cap
def ecells (l : List ED) : List Value := l.flatMap fun x => [x.g, x.v]
def EntriesAt (R : Mv) (q : Option Addr) (l : List ED) : Prop := Cells R q (ecells l) ∧ ∀ x ∈ l, FormsAt R x.p x.l
theorem EntriesAt.mono {R S : Mv} {q : Option Addr} {l : List ED} (h : EntriesAt R q l) (hle : R.le S) : EntriesAt S q l := ⟨h.1.mono hle, fun x hx => (h.2 x hx).mono hle⟩
theorem ecells_len (l : List ED) : (ecells l).length = l.length * 2 := by
  induction l with
  | nil => rfl
  | cons s w ih => simp only [ecells, List.flatMap_cons, List.length_append, List.length_cons] at *; rw [ih]; simp; omega
theorem ecells_at (w : List ED) (j : Nat) (h : j < w.length) : (ecells w)[j * 2]? = some w[j].g ∧ (ecells w)[j * 2 + 1]? = some w[j].v := by
  induction w generalizing j with
  | nil => simp at h
  | cons s w ih =>
    cases j with
    | zero => exact ⟨rfl, rfl⟩
    | succ j =>
      have := ih j (by simpa using h)
      simp only [ecells, List.flatMap_cons, List.cons_append, List.nil_append] at *
      rw [show (j + 1) * 2 = j * 2 + 2 by omega, show j * 2 + 2 + 1 = (j * 2 + 1) + 2 by omega]
      simpa using this
section
variable {P : Program} {c : Cx} {L : List Nat} {ρ : Env} {blks : List Blk} {m : Mem} {R : Value → HW → Prop} {Dn : Nat → List U → HW → Prop} {A : List (List U → HW → Prop)}
/-- An entry's forms, by a load of their own. -/
theorem DenM.loadEF {i : Nat} {I len : IT} {k : Tree} (l : List ED) (j : Nat) (hj : j < l.length) (hw : Good c L m → Cells (vw c L ρ blks m) (ρ.ptr i) (ecells l)) (hk : DenM P R Dn k L (ρ ++ [.p l[j].p, .i l[j].l.length, .i l[j].cap]) c m A) (hI : I.eval ρ = (j : Int) := by rfl) (hn : len.eval ρ = (l.length : Int) := by rfl) :
    DenM P R Dn (.chk (.pick (.cmp .geq I (.lit 0)) (.pick (.cmp .lss I len) (.some i) (.lit false)) (.lit false)) (.chk (.pick (.cmp .geq (.off I 2 (.lit 0)) (.lit 0)) (.some i) (.lit false)) (.load i (.off (.lit 1) 1 (.off I 2 (.lit 0))) [.sl] blks k))) L ρ c m A := fun g => by
  have h := ecells_at l j hj
  obtain ⟨b, o, hpe⟩ := (hw g).some (i := j * 2) (by rw [ecells_len]; omega)
  have h1 : (BT.pick (.cmp .geq I (.lit 0)) (.pick (.cmp .lss I len) (.some i) (.lit false)) (.lit false)).eval ρ = true := by
    simp only [BT.eval, IT.eval, hI, hn, hpe, cm, pick_and]; simp; omega
  have h2 : (BT.pick (.cmp .geq (.off I 2 (.lit 0)) (.lit 0)) (.some i) (.lit false)).eval ρ = true := by
    simp only [BT.eval, IT.eval, hI, hpe, cm, pick_and]; simp; omega
  exact DenM.chk h1 (.chk h2 (.loadSx (ecells l) (j * 2 + 1) l[j].p l[j].l.length l[j].cap (by simp only [IT.eval, hI]; simp <;> omega) h.2 hw hk)) g
theorem entry_at (ρ : Env) (L : List Nat) (x : ED) : SV.dens L (ρ ++ [.v x.g, .p x.p, .i x.l.length, .i x.cap]) (Sh.freshs [.val, .sl] ρ.length).1 = [x.g, x.v] := by
  have e1 := getElem_env ρ [.v x.g, .p x.p, .i x.l.length, .i x.cap] 0
  rw [Nat.add_zero] at e1
  have e2 := sl_at (ρ ++ [.v x.g]) L x.p x.l.length x.cap []
  rw [List.append_assoc] at e2
  simp only [List.cons_append, List.nil_append, List.length_append, List.length_cons, List.length_nil] at e2
  simp only [Sh.freshs, Sh.fresh, SV.dens, SV.den, Env.val] at e1 e2 ⊢
  rw [e1, e2]; rfl
theorem DenM.loadED {i : Nat} {I len : IT} {k : Tree} (l : List ED) (j : Nat) (hj : j < l.length) (h1 : l[j].g.oneCell' = true) (hw : Good c L m → Cells (vw c L ρ blks m) (ρ.ptr i) (ecells l)) (hk : DenM P R Dn k L (ρ ++ [.v l[j].g, .p l[j].p, .i l[j].l.length, .i l[j].cap]) c m A) (hI : I.eval ρ = (j : Int) := by rfl) (hn : len.eval ρ = (l.length : Int) := by rfl) :
    DenM P R Dn (.chk (.pick (.cmp .geq I (.lit 0)) (.pick (.cmp .lss I len) (.some i) (.lit false)) (.lit false)) (.load i (.off I 2 (.lit 0)) [.val, .sl] blks k)) L ρ c m A := by
  have h := ecells_at l j hj
  refine .elem [.v l[j].g, .p l[j].p, .i l[j].l.length, .i l[j].cap] (ecells l) j l.length hI hn hj (by simp [Sh.eats, Sh.eat, eatV, eatS, h1]) hw (by rw [ecells_len]; omega) (fun q v hv => ?_) hk
  rw [entry_at] at hv
  match q, hv with
  | 0, hv => simp at hv; rw [← hv]; exact h.1
  | 1, hv => simp at hv; rw [← hv]; exact h.2
  | q + 2, hv => simp at hv
end
end Go.Sy
namespace Go.Proofs.YthabfpagilbplaaDoor
open Go Go.Sy Go.RowKit
def longE (x : ED) : Bool := decide (16 < x.l.length)
theorem c_long (x : ED) (h1 : x.g.oneCell' = true) : FnM Tryd.prog n_cognates_Table_1 [.agg #[x.g, x.v]] (fun _ => True) fun v _ _ => v = .bool (longE x) := by
  refine FnM.of S_cognates_Table_1 mx [.v x.g, .p x.p, .i x.l.length, .i x.cap] (by simp [Sh.eats, Sh.eat, eatV, eatS, h1]) ?_ fun c _ => .alloc fun b0 => .chk (by ((try simp only [evE, liE, letsOf, letU, snd]); (try simp only [cmE])); omega) (.ret rfl ?_)
  · have := entry_at [] [] x
    simp only [List.nil_append] at this
    show [Value.agg (SV.dens [] [U.v x.g, .p x.p, .i x.l.length, .i x.cap] (Sh.freshs [.val, .sl] 0).1).toArray] = _
    rw [show (0 : Nat) = ([] : Env).length from rfl, this]
  · show Value.bool (cm .gtr (x.l.length : Int) 16) = _
    simp only [cm, longE]
    congr 1
    exact decide_eq_decide.2 (by omega)
theorem c_containsE (p : Option Addr) (cp : Nat) (t : List ED) (fv : Value) (hfv : fv.oneCell' = true) (f : ED → Bool) (hl : t.length < 2 ^ 63) (hg : ∀ x ∈ t, x.g.oneCell' = true) (hf : ∀ x ∈ t, FnV Tryd.prog fv [.agg #[x.g, x.v]] (fun _ => True) fun v _ _ => v = .bool (f x)) :
    RetP Tryd.prog n_slices_ContainsFunc___api_Entry_api_Entry_ [slv p t.length cp, fv] (fun R => Cells R p (ecells t)) (.bool (t.any f)) := by
  have key : RetP Tryd.prog n_slices_IndexFunc___api_Entry_api_Entry_ [slv p t.length cp, fv] (fun R => Cells R p (ecells t)) (.int .i64 (match t.findIdx? f with | some i => (i : Int) | none => -1)) := by
    refine Fn.of S_slices_IndexFunc___api_Entry_api_Entry_ mx [.p p, .i t.length, .i cp, .v fv] (by simp [Sh.eats, Sh.eat, eatV, eatP, eatS, hfv]) rfl fun c hp => .chk (by ((try simp only [evE, liE, letsOf, letU, snd]); (try simp only [cmE])); omega) ?_
    refine .loop (fun n us _ => ∃ (e : Int) (j : Nat), us = [.i e, .i j] ∧ n + j = t.length ∧ ∀ i (hi : i < t.length), i < j → f t[i] = false) t.length ⟨0, 0, rfl, rfl, fun i hi h => by omega⟩ ?_
    rintro n _ m _ ⟨e, j, rfl, hn, hb⟩
    refine .env (by (try simp only [liE, letsOf, letU, snd, List.append_nil]); rfl) (.ite (fun h2 => ?_) (fun h2 => .ret rfl ?_)) <;> ((try simp only [evE, liE, letsOf, letU, snd] at h2); (try simp only [cmE] at h2))
    · have hj : j < t.length := by omega
      refine .loadED t j hj (hg _ (List.getElem_mem hj)) (fun g => hp.mono g.R) (.env (by (try simp only [liE, letsOf, letU, snd, List.append_nil]); rfl) (.callvR (hf _ (List.getElem_mem hj)) (fun g => trivial) (fun m' _ => .env (by (try simp only [liE, letsOf, letU, snd, List.append_nil]); rfl) (.ite (fun h3 => .ret rfl ?_) (fun h3 => .again rfl ⟨n - 1, by omega, e, j + 1, ?_, by omega, ?_⟩)))))
      · replace h3 : f t[j] = true := h3
        rw [findIdx?_at hj h3 hb]; rfl
      · (simp only [evE, liE, letsOf, letU, snd, Sh.uss, Sh.us, atAddr, map_add0, List.append_nil]); rw [add_i64 j (by omega)]
      · replace h3 : f t[j] = false := h3
        intro i hi hij
        rcases Nat.lt_or_ge i j with h | h
        · exact hb i hi h
        · have : i = j := by omega
          subst this; exact h3
    · rw [findIdx?_none fun i hi => hb i hi (by omega)]; rfl
  refine Fn.of S_slices_ContainsFunc___api_Entry_api_Entry_ mx [.p p, .i t.length, .i cp, .v fv] (by simp [Sh.eats, Sh.eat, eatV, eatP, eatS, hfv]) rfl fun c hp => .callV key (fun g => hp.mono g.R) (.env (by (try simp only [liE, letsOf, letU, snd, List.append_nil]); rfl) (.ret rfl ?_))
  cases h : t.findIdx? f with
  | none =>
    rw [List.findIdx?_eq_none_iff] at h
    have : t.any f = false := List.any_eq_false.2 fun x hx => by simp [h x hx]
    rw [this]; rfl
  | some i =>
    obtain ⟨hi, h1, _⟩ := List.findIdx?_eq_some_iff_getElem.1 h
    rw [any_true hi h1]
    show Value.bool (cm .geq (i : Int) 0) = _
    simp [cm]
end Go.Proofs.YthabfpagilbplaaDoor
