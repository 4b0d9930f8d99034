/- Chapter 19: entries in memory; Table. -/
import Derived.Test.YthabfpagilbplaaDoorBi
import Derived.Test.YthabfpagilbplaaDoorTi
import Derived.Test.YthabfpagilbplaaDoorTcTables
set_option linter.unusedSimpArgs false
set_option linter.unusedVariables false
/- Chapter 19: entries in memory; Table. -/
namespace Go.Sy
open Go Go.RowKit
structure ED where
  g : Value
  p : Option Addr
  cap : Nat
  l : List FD
def ED.v (x : ED) : Value := slv x.p x.l.length x.cap
def ecells (l : List ED) : List Value := l.flatMap fun x => [x.g, x.v]
def EntriesAt (R : Mv) (q : Option Addr) (l : List ED) : Prop := Cells R q (ecells l) ∧ ∀ x ∈ l, FormsAt R x.p x.l
theorem ecells_len (l : List ED) : (ecells l).length = l.length * 2 := by
  induction l with
  | nil => rfl
  | cons s w ih => simp only [ecells, List.flatMap_cons, List.length_append, List.length_cons] at *; rw [ih]; simp; omega
theorem ecells_at (w : List ED) (j : Nat) (h : j < w.length) : (ecells w)[j * 2]? = some w[j].g ∧ (ecells w)[j * 2 + 1]? = some w[j].v := by
  induction w generalizing j with
  | nil => simp at h
  | cons s w ih =>
    cases j with
    | zero => exact ⟨rfl, rfl⟩
    | succ j =>
      have := ih j (by simpa using h)
      simp only [ecells, List.flatMap_cons, List.cons_append, List.nil_append] at *
      rw [show (j + 1) * 2 = j * 2 + 2 by omega, show j * 2 + 2 + 1 = (j * 2 + 1) + 2 by omega]
      simpa using this
section
variable {P : Program} {c : Cx} {L : List Nat} {ρ : Env} {blks : List Blk} {m : Mem} {R : Value → HW → Prop} {Dn : Nat → List U → HW → Prop} {A : List (List U → HW → Prop)}
theorem entry_at (ρ : Env) (L : List Nat) (x : ED) : SV.dens L (ρ ++ [.v x.g, .p x.p, .i x.l.length, .i x.cap]) (Sh.freshs [.val, .sl] ρ.length).1 = [x.g, x.v] := by
  have e1 := getElem_env ρ [.v x.g, .p x.p, .i x.l.length, .i x.cap] 0
  rw [Nat.add_zero] at e1
  have e2 := sl_at (ρ ++ [.v x.g]) L x.p x.l.length x.cap []
  rw [List.append_assoc] at e2
  simp only [List.cons_append, List.nil_append, List.length_append, List.length_cons, List.length_nil] at e2
  simp only [Sh.freshs, Sh.fresh, SV.dens, SV.den, Env.val] at e1 e2 ⊢
  rw [e1, e2]; rfl
theorem DenM.loadED {i : Nat} {I len : IT} {k : Tree} (l : List ED) (j : Nat) (hj : j < l.length) (h1 : l[j].g.oneCell' = true) (hw : Good c L m → Cells (vw c L ρ blks m) (ρ.ptr i) (ecells l)) (hk : DenM P R Dn k L (ρ ++ [.v l[j].g, .p l[j].p, .i l[j].l.length, .i l[j].cap]) c m A) (hI : I.eval ρ = (j : Int) := by rfl) (hn : len.eval ρ = (l.length : Int) := by rfl) :
    DenM P R Dn (.chk (.pick (.cmp .geq I (.lit 0)) (.pick (.cmp .lss I len) (.some i) (.lit false)) (.lit false)) (.load i (.off I 2 (.lit 0)) [.val, .sl] blks k)) L ρ c m A := by
  have h := ecells_at l j hj
  refine .elem [.v l[j].g, .p l[j].p, .i l[j].l.length, .i l[j].cap] (ecells l) j l.length hI hn hj (by simp [Sh.eats, Sh.eat, eatV, eatS, h1]) hw (by rw [ecells_len]; omega) (fun q v hv => ?_) hk
  rw [entry_at] at hv
  match q, hv with
  | 0, hv => simp at hv; rw [← hv]; exact h.1
  | 1, hv => simp at hv; rw [← hv]; exact h.2
  | q + 2, hv => simp at hv
end
end Go.Sy
namespace Go.Proofs.YthabfpagilbplaaDoor
open Go Go.Sy Go.RowKit
def longE (x : ED) : Bool := decide (16 < x.l.length)
theorem c_long (x : ED) (h1 : x.g.oneCell' = true) : FnM Tryd.prog n_cognates_Table_1 [.agg #[x.g, x.v]] (fun _ => True) fun v _ _ => v = .bool (longE x) := by
  refine FnM.of S_cognates_Table_1 mx [.v x.g, .p x.p, .i x.l.length, .i x.cap] (by simp [Sh.eats, Sh.eat, eatV, eatS, h1]) ?_ fun c _ => .alloc fun b0 => .chk (by ((try simp only [evE, liE, lO, lU, snd]); (try simp only [cmE])); omega) (.ret rfl ?_)
  · have := entry_at [] [] x
    simp only [List.nil_append] at this
    show [Value.agg (SV.dens [] [U.v x.g, .p x.p, .i x.l.length, .i x.cap] (Sh.freshs [.val, .sl] 0).1).toArray] = _
    rw [show (0 : Nat) = ([] : Env).length from rfl, this]
  · show Value.bool (cm .gtr (x.l.length : Int) 16) = _
    simp only [cm, longE]
    congr 1
    exact decide_eq_decide.2 (by omega)
theorem c_containsE (p : Option Addr) (cp : Nat) (t : List ED) (fv : Value) (hfv : fv.oneCell' = true) (f : ED → Bool) (hl : t.length < 2 ^ 63) (hg : ∀ x ∈ t, x.g.oneCell' = true) (hf : ∀ x ∈ t, FnV Tryd.prog fv [.agg #[x.g, x.v]] (fun _ => True) fun v _ _ => v = .bool (f x)) :
    RetP Tryd.prog n_slices_ContainsFunc___api_Entry_api_Entry_ [slv p t.length cp, fv] (fun R => Cells R p (ecells t)) (.bool (t.any f)) := by
  have key : RetP Tryd.prog n_slices_IndexFunc___api_Entry_api_Entry_ [slv p t.length cp, fv] (fun R => Cells R p (ecells t)) (.int .i64 (match t.findIdx? f with | some i => (i : Int) | none => -1)) := by
    refine Fn.of S_slices_IndexFunc___api_Entry_api_Entry_ mx [.p p, .i t.length, .i cp, .v fv] (by simp [Sh.eats, Sh.eat, eatV, eatP, eatS, hfv]) rfl fun c hp => .chk (by ((try simp only [evE, liE, lO, lU, snd]); (try simp only [cmE])); omega) ?_
    refine .loop (fun n us _ => ∃ (e : Int) (j : Nat), us = [.i e, .i j] ∧ n + j = t.length ∧ ∀ i (hi : i < t.length), i < j → f t[i] = false) t.length ⟨0, 0, rfl, rfl, fun i hi h => by omega⟩ ?_
    rintro n _ m _ ⟨e, j, rfl, hn, hb⟩
    refine .env (by (try simp only [liE, lO, lU, snd, aN]); rfl) (.ite (fun h2 => ?_) (fun h2 => .ret rfl ?_)) <;> ((try simp only [evE, liE, lO, lU, snd] at h2); (try simp only [cmE] at h2))
    · have hj : j < t.length := by omega
      refine .loadED t j hj (hg _ (List.getElem_mem hj)) (fun g => hp.mono g.R) (.env (by (try simp only [liE, lO, lU, snd, aN]); rfl) (.callvR (hf _ (List.getElem_mem hj)) (fun g => trivial) (fun m' _ => .env (by (try simp only [liE, lO, lU, snd, aN]); rfl) (.ite (fun h3 => .ret rfl ?_) (fun h3 => .again rfl ⟨n - 1, by omega, e, j + 1, ?_, by omega, ?_⟩)))))
      · replace h3 : f t[j] = true := h3
        rw [findIdx?_at hj h3 hb]; rfl
      · (simp only [evE, liE, lO, lU, snd, Sh.uss, Sh.us, atAddr, map_add0, List.append_nil]); rw [add_i64 j (by omega)]
      · replace h3 : f t[j] = false := h3
        intro i hi hij
        rcases Nat.lt_or_ge i j with h | h
        · exact hb i hi h
        · have : i = j := by omega
          subst this; exact h3
    · rw [findIdx?_none fun i hi => hb i hi (by omega)]; rfl
  refine Fn.of S_slices_ContainsFunc___api_Entry_api_Entry_ mx [.p p, .i t.length, .i cp, .v fv] (by simp [Sh.eats, Sh.eat, eatV, eatP, eatS, hfv]) rfl fun c hp => .callV key (fun g => hp.mono g.R) (.env (by (try simp only [liE, lO, lU, snd, aN]); rfl) (.ret rfl ?_))
  cases h : t.findIdx? f with
  | none =>
    rw [List.findIdx?_eq_none_iff] at h
    have : t.any f = false := List.any_eq_false.2 fun x hx => by simp [h x hx]
    rw [this]; rfl
  | some i =>
    obtain ⟨hi, h1, _⟩ := List.findIdx?_eq_some_iff_getElem.1 h
    rw [any_true hi h1]
    show Value.bool (cm .geq (i : Int) 0) = _
    simp [cm]
end Go.Proofs.YthabfpagilbplaaDoor
/- Chapter 19: Table. -/
namespace Go.Proofs.YthabfpagilbplaaDoor
open Go Go.Sy Go.RowKit
def headE (es : List ED) : Nat := match es with | [] => 0 | x :: _ => x.l.length
def oddE (n : Nat) (x : ED) : Bool := decide (x.l.length ≠ n) || x.l.any blankF
def wordsT : List ED → Int
  | [] => 0
  | x :: t => if checkL (x.l.map (·.w.w)) ≠ 0 then checkL (x.l.map (·.w.w)) else wordsT t
def tableE (ws : List Int) (gap : Int) (es : List ED) (N D : Int) : List (List Int) × Int :=
  if checkC ws gap ≠ 0 then ([], 2) else if es.length > 256 ∨ es.any longE = true then ([], 12) else if es.any (oddE (headE es)) = true then ([], 2) else if wordsT es ≠ 0 then ([], wordsT es) else if limB N D = true then (es.map fun x => (labelsE ws gap x.l N D).1, 0) else ([], 2)
theorem wordsT_at {es : List ED} {j : Nat} (hj : j < es.length) (h : ∀ i (hi : i < es.length), i < j → checkL (es[i].l.map (·.w.w)) = 0) (hb : checkL (es[j].l.map (·.w.w)) ≠ 0) : wordsT es = checkL (es[j].l.map (·.w.w)) := by
  induction es generalizing j with
  | nil => simp at hj
  | cons x t ih =>
    cases j with
    | zero => simp only [wordsT, List.getElem_cons_zero] at *; rw [if_pos hb]
    | succ j =>
      have h0 := h 0 (by simp) (by omega)
      simp only [List.getElem_cons_zero] at h0
      simp only [wordsT, List.getElem_cons_succ] at *
      rw [if_neg (by simp [h0])]
      exact ih (by simpa using hj) (fun i hi hij => by have := h (i + 1) (by simp; omega) (by omega); simpa using this) hb
theorem wordsT_none {es : List ED} (h : ∀ i (hi : i < es.length), checkL (es[i].l.map (·.w.w)) = 0) : wordsT es = 0 := by
  induction es with
  | nil => rfl
  | cons x t ih =>
    have h0 := h 0 (by simp)
    simp only [List.getElem_cons_zero] at h0
    simp only [wordsT]
    rw [if_neg (by simp [h0])]
    exact ih fun i hi => by have := h (i + 1) (by simp; omega); simpa using this
theorem ehead_at (es : List ED) (h : 0 < es.length) : es[0].l.length = headE es := by
  match es, h with
  | x :: _, _ => rfl
structure TabI (m : Mem) (q : Option Addr) (cq : Nat) (rs : List IR) : Prop where
  row : rs ≠ [] → Row m 30 1 q cq rs.length (rs.map IR.v)
  rows : ∀ r ∈ rs, RowI m r.p r.cap r.l
  nil : q = none → cq = 0
  le : rs.length ≤ cq
theorem TabI.empty (m : Mem) : TabI m none 0 [] := ⟨fun h => absurd rfl h, (by intro r hr; cases hr), fun _ => rfl, Nat.le_refl _⟩
end Go.Proofs.YthabfpagilbplaaDoor
/- Chapter 19: Table, walked. -/
namespace Go.Proofs.YthabfpagilbplaaDoor
open Go Go.Sy Go.RowKit
theorem elT : El Tryd.prog 60 30 1 24 := El.of (by kernel_rfl)
theorem RowI.keepO {m m' : Mem} {q qo : Option Addr} {cq co no g : Nat} {l : List Int} {xo : List Value} (h : RowI m q cq l) (ho : Row m 30 1 qo co no xo) (hg : qo = some ⟨g, 0, none⟩) (hs : ∀ b, b ≠ g → m' b = m b) : RowI m' q cq l :=
  ⟨fun hl => (h.row hl).keep fun b hb _ => hs b fun e => Row.apart (h.row hl) ho (by decide) b hb (by rw [hg, e]), h.nil, h.le⟩
theorem set_mid {α : Type} (xs : List α) (n : Nat) (z x : α) (h : xs.length < n) : (xs ++ List.replicate (n - xs.length) z).set xs.length x = (xs ++ [x]) ++ List.replicate (n - (xs.length + 1)) z := by
  rw [show n - xs.length = (n - (xs.length + 1)) + 1 by omega, List.replicate_succ, List.set_append_right _ _ (Nat.le_refl _), Nat.sub_self, List.set_cons_zero, List.append_assoc]; rfl
theorem labels_ok {ws : List Int} {gap : Int} {l : List FD} {N D : Int} (h1 : checkC ws gap = 0) (h2 : l.length ≤ 16) (h3 : l.any blankF = false) (h4 : checkL (l.map (·.w.w)) = 0) (h5 : limB N D = true) : (labelsE ws gap l N D).2 = 0 := by
  have : check19 ws gap l N D = 0 := by
    unfold check19
    rw [if_neg (by simp [h1]), if_neg (by omega), if_neg (by simp [h3]), if_neg (by simp [h4]), if_pos h5]
  unfold labelsE
  rw [if_neg (by simp [this])]
theorem c_Table (p : Option Addr) (cp : Nat) (es : List ED) (pc : Option Addr) (cc : Nat) (ws : List Int) (gap N D : Int) (hl : es.length < 2 ^ 63) (hg : ∀ x ∈ es, x.g.oneCell' = true) (hx : ∀ x ∈ es, x.l.length ≤ x.cap ∧ x.l.length < 2 ^ 63) (hok : ∀ x ∈ es, ∀ f ∈ x.l, Wok f.w.w) (hN : N < 2 ^ 63) (hD : D < 2 ^ 63) :
    FnM Tryd.prog n_cognates_Table [slv p es.length cp, costs pc ws.length cc gap, .agg #[.int .i64 N, .int .i64 D]] (fun R => EntriesAt R p es ∧ CostsAt R pc ws ∧ TabOk R) fun v mq _ => ∃ q cq rs, v = .tuple #[slv q rs.length cq, .int .i64 (tableE ws gap es N D).2] ∧ rs.map (·.l) = (tableE ws gap es N D).1 ∧ TabI mq q cq rs := by
  refine FnM.of S_cognates_Table mx [.p p, .i es.length, .i cp, .p pc, .i ws.length, .i cc, .i gap, .i N, .i D] rfl rfl fun c hp => .alloc fun b0 => .alloc fun b1 => .callV (c_checkCosts pc cc ws gap) (fun g => hp.2.1.mono g.R) (.env (by (try simp only [liE, lO, lU, snd, aN]); rfl) (.ite (fun h1 => .ret rfl ?_) (fun h1 => .chk (by ((try simp only [evE, liE, lO, lU, snd]); (try simp only [cmE])); omega) (.ite (fun h2 => .ret rfl ?_) (fun h2 => ?_))))) <;> ((try simp only [evE, liE, lO, lU, snd] at h1); (try simp only [cmE] at h1))
  · unfold tableE; rw [if_pos h1]; exact ⟨none, 0, [], rfl, rfl, .empty _⟩
  · ((try simp only [evE, liE, lO, lU, snd] at h2); (try simp only [cmE] at h2)); unfold tableE; rw [if_neg (by simp [h1]), if_pos (.inl (by omega))]; exact ⟨none, 0, [], rfl, rfl, .empty _⟩
  ((try simp only [evE, liE, lO, lU, snd] at h2); (try simp only [cmE] at h2))
  have hc : checkC ws gap = 0 := by simpa using h1
  have k := c_containsE p cp es (.func (.func n_cognates_Table_1) #[] #[]) rfl longE hl hg fun x hx => .of0 (by kernel_rfl) (c_long x (hg x hx))
  refine .callV k (fun g => hp.1.1.mono g.R) (.env (by (try simp only [liE, lO, lU, snd, aN]); rfl) (.ite (fun h3 => .ret rfl ?_) (fun h3 => .chk (by ((try simp only [evE, liE, lO, lU, snd]); (try simp only [cmE])); omega) ?_)))
  · replace h3 : es.any longE = true := h3
    unfold tableE; rw [if_neg (by simp [h1]), if_pos (.inr h3)]; exact ⟨none, 0, [], rfl, rfl, .empty _⟩
  replace h3 : es.any longE = false := h3
  have hshort : ∀ x ∈ es, x.l.length ≤ 16 := fun x hxm => by
    have := List.any_eq_false.1 h3 x hxm
    unfold longE at this
    simp at this
    omega
  have hn12 : ¬ (es.length > 256 ∨ es.any longE = true) := by rw [h3]; simp; omega
  refine .loop (fun n us m => ∃ (pp : Option Addr) (n1 n2 : Int) (e : Int) (j : Nat), j ≤ es.length ∧ us = [.p pp, .i n1, .i n2, .i e, .i j] ∧ n = es.length - j ∧ ∀ i (hi : i < es.length), i < j → oddE (headE es) es[i] = false) es.length ⟨none, 0, 0, 0, 0, Nat.zero_le _, rfl, rfl, fun i hi h => by omega⟩ ?_
  rintro n us m _ ⟨pp, n1, n2, e, j, hj, rfl, rfl, hb⟩
  refine .env (by (try simp only [liE, lO, lU, snd, aN]); rfl) (.ite (fun h4 => ?_) (fun h4 => .chk (by ((try simp only [evE, liE, lO, lU, snd]); (try simp only [cmE])); omega) ?_)) <;> ((try simp only [evE, liE, lO, lU, snd] at h4); (try simp only [cmE] at h4))
  · have hj : j < es.length := by omega
    have hh := ehead_at es (by omega)
    have h0 := (ecells_at es 0 (by omega)).2
    have bad : oddE (headE es) es[j] = true → es.any (oddE (headE es)) = true := fun h => any_true hj h
    have hpt : ∃ pb po, p = some ⟨pb, po, none⟩ := by
      obtain ⟨pb, po, hpe, _⟩ := hp.1.1 1 _ h0
      exact ⟨pb, po, hpe⟩
    refine .loadED es j hj (hg _ (List.getElem_mem hj)) (fun g => hp.1.1.mono g.R) (.alloc fun b2 => .env (by (try simp only [liE, lO, lU, snd, aN]); rfl) (.chk (by ((try simp only [evE, liE, lO, lU, snd]); (try simp only [cmE])); omega) (.chk ?_ (.chk ?_ (.loadSx (ecells es) 1 es[0].p es[0].l.length es[0].cap rfl h0 (fun g => hp.1.1.mono g.R) (.env (by (try simp only [liE, lO, lU, snd, aN]); rfl) (.chk (by ((try simp only [evE, liE, lO, lU, snd]); (try simp only [cmE])); omega) (.ite (fun h5 => .ret rfl ?_) (fun h5 => ?_)))))))))
    · obtain ⟨pb, po, rfl⟩ := hpt
      ((try simp only [evE, liE, lO, lU, snd]); (try simp only [cmE])); simp [pick_and]; omega
    · obtain ⟨pb, po, rfl⟩ := hpt
      rfl
    · ((try simp only [evE, liE, lO, lU, snd] at h5); (try simp only [cmE] at h5))
      unfold tableE; rw [if_neg (by simp [h1]), if_neg hn12, if_pos (bad (by unfold oddE; rw [decide_eq_true (by omega)]; rfl))]; exact ⟨none, 0, [], rfl, rfl, .empty _⟩
    · ((try simp only [evE, liE, lO, lU, snd] at h5); (try simp only [cmE] at h5))
      refine .callV (c_hidden es[j].p es[j].cap es[j].l (hx _ (List.getElem_mem hj)).2) (fun g => ((hp.1.2 _ (List.getElem_mem hj)).1).mono g.R) (.env (by (try simp only [liE, lO, lU, snd, aN]); rfl) (.ite (fun h6 => .ret rfl ?_) (fun h6 => .again rfl ⟨es.length - (j + 1), by omega, pp, n1, n2, e, j + 1, by omega, ?_, rfl, fun i hi hij => ?_⟩)))
      · replace h6 : es[j].l.any blankF = true := h6
        unfold tableE; rw [if_neg (by simp [h1]), if_neg hn12, if_pos (bad (by unfold oddE; rw [h6, Bool.or_true]))]; exact ⟨none, 0, [], rfl, rfl, .empty _⟩
      · (simp only [evE, liE, lO, lU, snd, Sh.uss, Sh.us, atAddr, map_add0, List.append_nil]); rw [add_i64 j (by omega)]
      · rcases Nat.lt_or_ge i j with h | h
        · exact hb i hi h
        · have : i = j := by omega
          subst this
          replace h6 : es[i].l.any blankF = false := h6
          unfold oddE; rw [h6, decide_eq_false (by omega)]; rfl
  · have hodd : ¬ es.any (oddE (headE es)) = true := by
      rw [any_false fun i hi => hb i hi (by omega)]; simp
    have hblank : ∀ i (hi : i < es.length), es[i].l.any blankF = false := fun i hi => by
      have := hb i hi (by omega)
      unfold oddE at this
      simp only [Bool.or_eq_false_iff] at this
      exact this.2
    have hnoerr : tableE ws gap es N D = if wordsT es ≠ 0 then ([], wordsT es) else if limB N D = true then (es.map fun x => (labelsE ws gap x.l N D).1, 0) else ([], 2) := by
      unfold tableE; rw [if_neg (by simp [h1]), if_neg hn12, if_neg hodd]
    rw [hnoerr]
    refine .loop (fun n us m => ∃ (pp : Option Addr) (n1 n2 : Int) (e : Int) (j : Nat), j ≤ es.length ∧ us = [.p pp, .i n1, .i n2, .i e, .i j] ∧ n = es.length - j ∧ ∀ i (hi : i < es.length), i < j → checkL (es[i].l.map (·.w.w)) = 0) es.length ⟨pp, n1, n2, e, 0, Nat.zero_le _, ?_, rfl, fun i hi h => by omega⟩ ?_
    · (simp only [evE, liE, lO, lU, snd, Sh.uss, Sh.us, atAddr, map_add0, List.append_nil]); rfl
    rintro n us m _ ⟨pp, n1, n2, e, j, hj, rfl, rfl, hb2⟩
    refine .env (by (try simp only [liE, lO, lU, snd, aN]); rfl) (.ite (fun h5 => ?_) (fun h5 => ?_)) <;> ((try simp only [evE, liE, lO, lU, snd] at h5); (try simp only [cmE] at h5))
    · have hj : j < es.length := by omega
      refine .loadED es j hj (hg _ (List.getElem_mem hj)) (fun g => hp.1.1.mono g.R) (.alloc fun b2 => .env (by (try simp only [liE, lO, lU, snd, aN]); rfl) (.callV (c_words19 es[j].p es[j].cap es[j].l (hx _ (List.getElem_mem hj)).2 (hok _ (List.getElem_mem hj))) (fun g => (hp.1.2 _ (List.getElem_mem hj)).mono g.R) (.env (by (try simp only [liE, lO, lU, snd, aN]); rfl) (.ite (fun h6 => .ret rfl ?_) (fun h6 => .again rfl ⟨es.length - (j + 1), by omega, pp, n1, n2, e, j + 1, by omega, ?_, rfl, fun i hi hij => ?_⟩)))))
      · ((try simp only [evE, liE, lO, lU, snd] at h6); (try simp only [cmE] at h6))
        have hw := wordsT_at hj (fun i hi h => hb2 i hi h) h6
        rw [if_pos (by rw [hw]; exact h6), hw]
        exact ⟨none, 0, [], rfl, rfl, .empty _⟩
      · (simp only [evE, liE, lO, lU, snd, Sh.uss, Sh.us, atAddr, map_add0, List.append_nil]); rw [add_i64 j (by omega)]
      · ((try simp only [evE, liE, lO, lU, snd] at h6); (try simp only [cmE] at h6))
        rcases Nat.lt_or_ge i j with h | h
        · exact hb2 i hi h
        · have : i = j := by omega
          subst this; exact h6
    · have hw0 : wordsT es = 0 := wordsT_none fun i hi => hb2 i hi (by omega)
      rw [if_neg (by simp [hw0])]
      refine .callV (c_isLimit N D) (fun _ => trivial) (.env (by (try simp only [liE, lO, lU, snd, aN]); rfl) (.ite (fun h6 => .ret rfl ?_) (fun h6 => .chk (by ((try simp only [evE, liE, lO, lU, snd]); (try simp only [cmE])); omega) ?_)))
      · replace h6 : (!limB N D) = true := h6
        rw [if_neg (by simpa using h6)]; exact ⟨none, 0, [], rfl, rfl, .empty _⟩
      replace h6 : (!limB N D) = false := h6
      have hlim : limB N D = true := by simpa using h6
      rw [if_pos hlim]
      have hw : ∀ i (hi : i < es.length), checkL (es[i].l.map (·.w.w)) = 0 := fun i hi => hb2 i hi (by omega)
      refine .make (z := .slice none 0 0) (bytes := 24) es.length Tryd.underlying60 (by kernel_rfl) rfl (by omega) (by simp [maxLen]; omega) fun g9 hg9 hrow => .env (by (try simp only [liE, lO, lU, snd, aN]); rfl) (.chk (by ((try simp only [evE, liE, lO, lU, snd]); (try simp only [cmE])); omega) ?_)
      generalize m.upd g9 _ = m9 at hrow ⊢
      refine .loop (fun n us m => ∃ (pp : Option Addr) (n1 n2 : Int) (e : Int) (j : Nat) (rs : List IR), j ≤ es.length ∧ us = [.p pp, .i n1, .i n2, .i e, .i j] ∧ n = es.length - j ∧ rs.length = j ∧ rs.map (·.l) = (es.take j).map (fun x => (labelsE ws gap x.l N D).1) ∧ (∀ r ∈ rs, RowI m r.p r.cap r.l) ∧ Row m 30 1 (some ⟨g9, 0, none⟩) es.length es.length (rs.map IR.v ++ List.replicate (es.length - j) (.slice none 0 0))) es.length ⟨pp, n1, n2, e, 0, [], Nat.zero_le _, ?_, rfl, rfl, rfl, (by intro r hr; cases hr), hrow⟩ ?_
      · (simp only [evE, liE, lO, lU, snd, Sh.uss, Sh.us, atAddr, map_add0, List.append_nil]); rfl
      rintro n us m4 _ ⟨pp, n1, n2, e, j, rs, hj, rfl, rfl, hrl, hrs, hri, hro⟩
      refine .env (by (try simp only [liE, lO, lU, snd, aN]); rfl) (.ite (fun h7 => ?_) (fun h7 => .ret rfl ?_)) <;> ((try simp only [evE, liE, lO, lU, snd] at h7); (try simp only [cmE] at h7))
      · have hj : j < es.length := by omega
        refine .loadED es j hj (hg _ (List.getElem_mem hj)) (fun g => hp.1.1.mono g.R) (.alloc fun b2 => .env (by (try simp only [liE, lO, lU, snd, aN]); rfl) (.callM (c_Labels es[j].p es[j].cap es[j].l pc cc ws gap N D (hx _ (List.getElem_mem hj)).1 (hx _ (List.getElem_mem hj)).2 (hok _ (List.getElem_mem hj)) hN hD) rfl rfl (fun g => ⟨(hp.1.2 _ (List.getElem_mem hj)).mono g.R, hp.2.1.mono g.R, hp.2.2.mono g.R⟩) ?_))
        rintro v mq hfr ⟨q, cq, rfl, hr⟩
        have hz : (labelsE ws gap es[j].l N D).2 = 0 := labels_ok hc (hshort _ (List.getElem_mem hj)) (hblank j hj) (hw j hj) hlim
        rw [hz]
        refine ⟨[.p q, .i (labelsE ws gap es[j].l N D).1.length, .i cq, .i 0], uOk_of rfl, (tab_fresh _ _ _ _ _ _).symm, ?_⟩
        have hr := hr.joinR (m := m4) fun b hb => (hfr b hb).1
        have hri : ∀ r ∈ rs, RowI (m4.join mq) r.p r.cap r.l := fun r h => (hri r h).joinL
        have hro := hro.joinL (mq := mq)
        generalize m4.join mq = m5 at *
        refine .env (by (try simp only [liE, lO, lU, snd, aN]); rfl) (.no (by ((try simp only [evE, liE, lO, lU, snd]); (try simp only [cmE])) <;> simp) (.storeR j hj hro rfl rfl rfl fun m6 g hg9' hro' hs => .again rfl ⟨es.length - (j + 1), by omega, pp, n1, n2, e, j + 1, rs ++ [⟨q, cq, (labelsE ws gap es[j].l N D).1⟩], by omega, ?_, rfl, by simp [hrl], ?_, ?_, ?_⟩))
        · (simp only [evE, liE, lO, lU, snd, Sh.uss, Sh.us, atAddr, map_add0, List.append_nil]); rw [add_i64 j (by omega)]
        · rw [List.map_append, hrs, take_snoc _ _ hj, List.map_append]; rfl
        · intro r hm
          rcases List.mem_append.1 hm with hm | hm
          · exact (hri r hm).keepO hro hg9' hs
          · simp at hm; subst hm; exact hr.keepO hro hg9' hs
        · have e1 := set_mid (rs.map IR.v) es.length (Value.slice none 0 0) (IR.v ⟨q, cq, (labelsE ws gap es[j].l N D).1⟩) (by simp; omega)
          rw [List.length_map, hrl] at e1
          rw [List.map_append, List.map_cons, List.map_nil, ← e1]
          exact hro'
      · have : j = es.length := by omega
        subst this
        rw [Nat.sub_self, List.replicate_zero, List.append_nil] at hro
        rw [List.take_length] at hrs
        refine ⟨some ⟨g9, 0, none⟩, es.length, rs, ?_, hrs, ⟨fun _ => by rw [hrl]; exact hro, hri, (fun h => by cases h), by omega⟩⟩
        rw [hrl]; rfl
end Go.Proofs.YthabfpagilbplaaDoor
/- Chapter 19: the reference's Table, and the law Tables. -/
namespace Go.Proofs.YthabfpagilbplaaDoor
open Go Go.Sy Go.RowKit
end Go.Proofs.YthabfpagilbplaaDoor
