/- Chapter 19: what the outright laws take: spelt, costs, labels, finer. -/
import Derived.Test.YthabfpagilbplaaDoorBk
import Derived.Test.YthabfpagilbplaaDoorTcFiner
set_option linter.unusedSimpArgs false
set_option linter.unusedVariables false
/- Chapter 19: what the outright laws take: spelt, costs, labels, finer. -/
namespace Go.Sy
open Go Go.RowKit
theorem Good.mv {c : Cx} {L : List Nat} {ρ : Env} {blks : List Blk} {m : Mem} (g : Good c L m) : m.mv.le (vw c L ρ blks m) := by
  refine Mv.le.trans ⟨fun b o v hv => ?_, fun b es hv => ?_⟩ g.on
  · unfold Mem.mv at hv
    rw [Mv.on_c] at hv ⊢
    cases hb : m b with
    | none => rw [hb] at hv; cases hv
    | some x => rw [hb] at hv; cases x <;> exact hv
  · unfold Mem.mv at hv
    rw [Mv.on_m] at hv ⊢
    cases hb : m b with
    | none => rw [hb] at hv; cases hv
    | some x => rw [hb] at hv; cases x <;> exact hv
end Go.Sy
namespace Go.Proofs.YthabfpagilbplaaDoor
open Go Go.Sy Go.RowKit
def u8L (l : List Int) : List Value := l.map (Value.int .u8)
def Rows8At (R : Mv) (q : Option Addr) (rs : List IR) : Prop := Cells R q (rs.map IR.v) ∧ ∀ r ∈ rs, Cells R r.p (u8L r.l)
theorem Rows8At.mono {R S : Mv} {q : Option Addr} {rs : List IR} (h : Rows8At R q rs) (hle : R.le S) : Rows8At S q rs := ⟨h.1.mono hle, fun r hr => (h.2 r hr).mono hle⟩
structure Rok8 (r : IR) : Prop where
  cap : r.l.length ≤ r.cap
  len : r.l.length < 2 ^ 63
  el : ∀ x ∈ r.l, 0 ≤ x ∧ x < 256
/-- What is known of a form that is spelt. -/
structure SpF (f : FD) : Prop where
  ok : Wok f.w.w
  check : checkW f.w.w = 0
  none : f.has = false → f.w.w = []
  len : f.w.w.length ≤ 10
  wok : f.w.ok
theorem SpF.blank {l : List FD} (h : ∀ f ∈ l, SpF f) : l.any blankF = false := List.any_eq_false.2 fun f hf => by
  unfold blankF
  cases e : f.has with
  | true => simp
  | false => rw [(h f hf).none e]; simp
theorem SpF.words {l : List FD} (h : ∀ f ∈ l, SpF f) : checkL (l.map (·.w.w)) = 0 := checkL_none fun i hi => (h _ (List.getElem_mem hi)).check
theorem SpF.chk {l : List FD} (h : ∀ f ∈ l, SpF f) (hl : l.length ≤ 16) {ws : List Int} {gap N D : Int} (hc : checkC ws gap = 0) (hd : limB N D = true) : check19 ws gap l N D = 0 := by
  unfold check19
  rw [if_neg (by simp [hc]), if_neg (by omega), if_neg (by rw [SpF.blank h]; simp), if_neg (by simp [SpF.words h]), if_pos hd]
structure SpM (m : Mem) (q : Option Addr) (cq : Nat) (fs : List FD) : Prop where
  out : Row m 50 2 q cq fs.length (fcells fs)
  inn : ∀ f ∈ fs, Row m 56 2 f.w.p f.w.cap f.w.w.length (wcells f.w.w)
theorem SpM.mv {m : Mem} {q : Option Addr} {cq : Nat} {fs : List FD} (h : SpM m q cq fs) : FormsAt m.mv q fs := ⟨Mem.mv_row h.out, fun f hf => Mem.mv_row (h.inn f hf)⟩
theorem row_in {m : Mem} {e : TypeId} {size : Nat} {q : Option Addr} {cap n : Nat} {xs : List Value} (h : Row m e size q cap n xs) {b : Nat} (hb : q = some ⟨b, 0, none⟩) : m b ≠ none := by
  rcases h.2 with ⟨h1, _⟩ | ⟨g, cur, h1, h2, _⟩
  · rw [h1] at hb; cases hb
  · rw [h1] at hb; cases hb; rw [h2]; simp
theorem row_at0 {m : Mem} {e : TypeId} {size : Nat} {q : Option Addr} {cap n : Nat} {xs : List Value} (h : Row m e size q cap n xs) {b o : Nat} (hb : q = some ⟨b, o, none⟩) : o = 0 := by
  rcases h.2 with ⟨h1, _⟩ | ⟨g, cur, h1, h2, _⟩
  · rw [h1] at hb; cases hb
  · rw [h1] at hb; cases hb; rfl
end Go.Proofs.YthabfpagilbplaaDoor
/- Chapter 19: the laws' labels and finer; single linkage is coarser, plainly. -/
namespace Go.Sy
open Go Go.RowKit
theorem sm_lin (n : Nat) (g h : Nat → Int) (c d : Int) : sm n (fun i => g i * c + h i * d) = sm n g * c + sm n h * d := by
  induction n with
  | zero => simp [sm]
  | succ n ih => simp only [sm, ih, Int.add_mul]; omega
theorem sm_pos {n : Nat} {g : Nat → Int} (h : ∀ i, i < n → 0 ≤ g i) (a : Nat) (ha : a < n) (hp : 0 < g a) : 0 < sm n g := by
  have := sm_lt (n := n) (g := fun _ => 0) (h := g) h a ha hp
  rwa [sm_zero (fun _ _ => rfl)] at this
theorem sm_nn {n : Nat} {g : Nat → Int} (h : ∀ i, i < n → 0 ≤ g i) : 0 ≤ sm n g := by
  induction n with
  | zero => exact Int.le_refl _
  | succ n ih => simp only [sm]; have := ih fun i hi => h i (by omega); have := h n (by omega); omega
theorem s1_lin (lab : List Int) (X Y : Nat → Nat → Int) (c d x y : Int) : s1 lab (fun i k => X i k * c + Y i k * d) x y = s1 lab X x y * c + s1 lab Y x y * d := by
  unfold s1
  rw [← sm_lin]
  refine sm_congr fun i _ => ?_
  by_cases h : labAt lab i = x
  · simp only [if_pos h]
    rw [← sm_lin]
    refine sm_congr fun k _ => ?_
    by_cases h2 : labAt lab k = y
    · simp only [if_pos h2]
    · simp only [if_neg h2]; omega
  · simp only [if_neg h]; omega
theorem s1_pos (lab : List Int) (X : Nat → Nat → Int) (x y : Int) (h : ∀ i k, i < lab.length → k < lab.length → labAt lab i = x → labAt lab k = y → 0 < X i k) {a b : Nat} (ha : a < lab.length) (hb : b < lab.length) (la : labAt lab a = x) (lb : labAt lab b = y) : 0 < s1 lab X x y := by
  unfold s1
  refine sm_pos (fun i hi => ?_) a ha ?_
  · split
    · rename_i hx
      refine sm_nn fun k hk => ?_
      split
      · rename_i hy; have := h i k hi hk hx hy; omega
      · omega
    · omega
  · rw [if_pos la]
    refine sm_pos (fun k hk => ?_) b hb ?_
    · split
      · rename_i hy; have := h a k ha hk la hy; omega
      · omega
    · rw [if_pos lb]; exact h a b ha hb la lb
end Go.Sy
namespace Go.Proofs.YthabfpagilbplaaDoor
open Go Go.Sy Go.RowKit
/-- Two words that are near. -/
def nearE (ws : List Int) (gap : Int) (l : List FD) (N D : Int) (i j : Nat) : Prop := i < j ∧ j < l.length ∧ (l.map (·.has))[i]? = some true ∧ (l.map (·.has))[j]? = some true ∧ nearB ws gap l N D i j = true
theorem exists_near {ws : List Int} {gap : Int} {l : List FD} {N D : Int} (hc : checkC ws gap = 0) (hw : ∀ f ∈ l, checkW f.w.w = 0) (hN : 0 ≤ N) {lab : List Int} {a b : Nat} (ha : a < lab.length) (hb : b < lab.length) (la : labAt lab a = (a : Int)) (lb : labAt lab b = (b : Int))
    (h : leF (ratS ws gap l lab a b) (N, D) = true) : ∃ i k : Nat, i < lab.length ∧ k < lab.length ∧ labAt lab i = (a : Int) ∧ labAt lab k = (b : Int) ∧ nearB ws gap l N D i k = true := by
  refine Classical.byContradiction fun hno => ?_
  have hg := (checkC_zero hc).2.1
  have hall : ∀ i k : Nat, i < lab.length → k < lab.length → labAt lab i = (a : Int) → labAt lab k = (b : Int) → 0 < gap * (tabX ws gap l i k).2 ∧ N * (gap * (tabX ws gap l i k).2) < (tabX ws gap l i k).1 * D := fun i k hi hk h1 h2 => by
    have hn : nearB ws gap l N D i k = false := by
      cases e : nearB ws gap l N D i k with
      | false => rfl
      | true => exact absurd ⟨i, k, hi, hk, h1, h2, e⟩ hno
    have ht := tabX_small hc hw i k
    unfold nearB leF ratC at hn
    have hnn : 0 ≤ gap * (tabX ws gap l i k).2 := Int.mul_nonneg hg ht.2.2.1
    split at hn
    · rw [decide_eq_false_iff_not] at hn
      simp only at hn
      omega
    · rw [decide_eq_false_iff_not] at hn
      simp only at hn
      exact ⟨by omega, by omega⟩
  have p1 := s1_pos lab (fun i k => (tabX ws gap l i k).2 * gap + 0 * 0) a b (fun i k hi hk h1 h2 => by have := (hall i k hi hk h1 h2).1; rw [Int.mul_comm] at this; omega) ha hb la lb
  have p2 := s1_pos lab (fun i k => (tabX ws gap l i k).1 * D + (tabX ws gap l i k).2 * (-(N * gap))) a b (fun i k hi hk h1 h2 => by
    have := (hall i k hi hk h1 h2).2
    have e : (tabX ws gap l i k).2 * (-(N * gap)) = -(N * (gap * (tabX ws gap l i k).2)) := by rw [Int.mul_neg, Int.mul_comm (tabX ws gap l i k).2, Int.mul_assoc]
    rw [e]; omega) ha hb la lb
  rw [s1_lin lab (fun i k => (tabX ws gap l i k).2) (fun _ _ => 0) gap 0] at p1
  rw [s1_lin lab (fun i k => (tabX ws gap l i k).1) (fun i k => (tabX ws gap l i k).2)] at p2
  unfold ratS sumS ratC leF at h
  simp only at h
  rw [Int.mul_comm gap, if_neg (by omega), decide_eq_true_eq] at h
  simp only at h
  have e : s1 lab (fun i k => (tabX ws gap l i k).2) (a : Int) (b : Int) * (-(N * gap)) = -(N * (s1 lab (fun i k => (tabX ws gap l i k).2) (a : Int) (b : Int) * gap)) := by
    rw [Int.mul_neg, ← Int.mul_assoc N, Int.mul_comm _ (N * gap), Int.mul_assoc N gap, Int.mul_comm gap, ← Int.mul_assoc N]
  rw [e] at p2
  omega
/-- Classes that single linkage has too. -/
def AvgOk (ws : List Int) (gap : Int) (l : List FD) (N D : Int) (lab : List Int) : Prop := (∃ E, Canon (l.map (·.has)) E lab) ∧ ∀ i j, (l.map (·.has))[i]? = some true → (l.map (·.has))[j]? = some true → labAt lab i = labAt lab j → Conn (nearE ws gap l N D) i j
theorem canon_has {has : List Bool} {E : Nat → Nat → Prop} {lab : List Int} (h : Canon has E lab) {i : Nat} (hi : i < lab.length) (h0 : 0 ≤ labAt lab i) : has[i]? = some true := by
  have hi' : i < has.length := by rw [← h.len]; exact hi
  cases e : has[i] with
  | true => rw [List.getElem?_eq_getElem hi', e]
  | false => have := h.no i (by rw [List.getElem?_eq_getElem hi', e]); omega
theorem AvgOk.step {ws : List Int} {gap : Int} {l : List FD} {N D : Int} (hc : checkC ws gap = 0) (hw : ∀ f ∈ l, checkW f.w.w = 0) (hN : 0 ≤ N) {lab : List Int} (h : AvgOk ws gap l N D lab) {a b : Nat} (hab : a < b) (hb : b < lab.length) (la : labAt lab a = (a : Int)) (lb : labAt lab b = (b : Int))
    (hl : leF (ratS ws gap l lab a b) (N, D) = true) : AvgOk ws gap l N D (uniteL lab a b) := by
  obtain ⟨⟨E, hC⟩, hcon⟩ := h
  obtain ⟨i0, k0, hi0, hk0, li0, lk0, hnear⟩ := exists_near hc hw hN (by omega) hb la lb hl
  have hhi : (l.map (·.has))[i0]? = some true := canon_has hC hi0 (by omega)
  have hhk : (l.map (·.has))[k0]? = some true := canon_has hC hk0 (by omega)
  have hlen : lab.length = l.length := by rw [hC.len, List.length_map]
  have hne : i0 ≠ k0 := fun e => by rw [e, lk0] at li0; omega
  have cik : Conn (nearE ws gap l N D) i0 k0 := by
    rcases Nat.lt_or_ge i0 k0 with h1 | h1
    · exact .edge ⟨h1, by omega, hhi, hhk, hnear⟩
    · exact .symm (.edge ⟨by omega, by omega, hhk, hhi, by rw [nearB_comm]; exact hnear⟩)
  refine ⟨canon_unite hC (by omega) hb la lb, fun i j hi hj he => ?_⟩
  have hil : i < lab.length := by rw [hC.len]; exact (List.getElem?_eq_some_iff.1 hi).1
  have hjl : j < lab.length := by rw [hC.len]; exact (List.getElem?_eq_some_iff.1 hj).1
  rw [unite_at hab i hil, unite_at hab j hjl] at he
  by_cases h1 : labAt lab i = (b : Int)
  · by_cases h2 : labAt lab j = (b : Int)
    · exact hcon i j hi hj (by omega)
    · rw [if_pos h1, if_neg h2] at he
      exact ((hcon i k0 hi hhk (by omega)).trans cik.symm).trans (hcon i0 j hhi hj (by omega))
  · by_cases h2 : labAt lab j = (b : Int)
    · rw [if_neg h1, if_pos h2] at he
      exact ((hcon i i0 hi hhi (by omega)).trans cik).trans (hcon k0 j hhk hj (by omega))
    · rw [if_neg h1, if_neg h2] at he
      exact hcon i j hi hj he
theorem AvgOk.run {ws : List Int} {gap : Int} {l : List FD} {N D : Int} (hc : checkC ws gap = 0) (hw : ∀ f ∈ l, checkW f.w.w = 0) (hN : 0 ≤ N) : ∀ (m : Nat) {lab : List Int}, AvgOk ws gap l N D lab → AvgOk ws gap l N D (avgN ws gap l N D m lab)
  | 0, lab, h => h
  | m + 1, lab, h => by
    unfold avgN
    split
    · exact h
    · rename_i hn
      rcases leastL_ok (ratS ws gap l lab) lab (pairsN lab).length (Nat.le_refl _) with ⟨h1, _⟩ | ⟨a, b, e, h1, h2, h3, h4⟩
      · exact absurd (.inl (by show (leastL _ _ _).i < 0; rw [h1]; decide)) hn
      · have e' : leastA ws gap l lab = ⟨a, b, ratS ws gap l lab a b⟩ := e
        rw [e'] at hn ⊢
        refine AvgOk.run hc hw hN m (h.step hc hw hN h1 h2 h3 h4 ?_)
        cases hle : leF (ratS ws gap l lab a b) (N, D) with
        | true => rfl
        | false => exact absurd (.inr hle) hn
theorem AvgOk.alone (ws : List Int) (gap : Int) (l : List FD) (N D : Int) : AvgOk ws gap l N D (aloneL (l.map (·.has))) := by
  refine ⟨⟨_, Canon.alone _⟩, fun i j hi hj he => ?_⟩
  have := ((Canon.alone (l.map (·.has))).conn i j hi hj).1 he
  exact this.mono fun _ _ h => h.elim
end Go.Proofs.YthabfpagilbplaaDoor
/- Chapter 19: the law Finer. -/
namespace Go.Sy
open Go Go.RowKit
/-- It has all that m has. -/
def Mem.le (m m' : Mem) : Prop := ∀ b o, m b = some o → m' b = some o
theorem Mem.le.refl (m : Mem) : m.le m := fun _ _ h => h
theorem Mem.le.trans {m m' m'' : Mem} (h : m.le m') (k : m'.le m'') : m.le m'' := fun b o x => k b o (h b o x)
theorem Mem.le.keep {m m' : Mem} (h : m.le m') {b : Nat} (hb : m b ≠ none) : m' b = m b := by
  cases e : m b with
  | none => exact absurd e hb
  | some o => exact h b o e
theorem Mem.le.mv {m m' : Mem} (h : m.le m') : m.mv.le m'.mv := by
  refine ⟨fun b o v hv => ?_, fun b es hv => ?_⟩
  · unfold Mem.mv at hv ⊢
    rw [Mv.on_c] at hv ⊢
    cases hb : m b with
    | none => rw [hb] at hv; cases hv
    | some x => rw [h b x hb]; rw [hb] at hv; exact hv
  · unfold Mem.mv at hv ⊢
    rw [Mv.on_m] at hv ⊢
    cases hb : m b with
    | none => rw [hb] at hv; cases hv
    | some x => rw [h b x hb]; rw [hb] at hv; exact hv
theorem Row.le {m m' : Mem} {e : TypeId} {size : Nat} {q : Option Addr} {cap n : Nat} {xs : List Value} (h : Row m e size q cap n xs) (hle : m.le m') : Row m' e size q cap n xs := h.keep fun _ _ hb => hle.keep hb
section
variable {P : Program} {c : Cx} {L : List Nat} {ρ : Env} {blks : List Blk} {m : Mem} {R : Value → HW → Prop} {Dn : Nat → List U → HW → Prop} {A : List (List U → HW → Prop)}
end
end Go.Sy
namespace Go.Proofs.YthabfpagilbplaaDoor
open Go Go.Sy Go.RowKit
end Go.Proofs.YthabfpagilbplaaDoor
namespace Go.Sy
open Go Go.RowKit Go.Proofs.YthabfpagilbplaaDoor
end Go.Sy
namespace Go.Proofs.YthabfpagilbplaaDoor
open Go Go.Sy Go.RowKit
theorem FormsAt.take {R : Mv} {q : Option Addr} {l : List FD} (h : FormsAt R q l) (n : Nat) : FormsAt R q (l.take n) := by
  refine ⟨?_, fun f hf => h.2 f (List.mem_of_mem_take hf)⟩
  have : fcells l = fcells (l.take n) ++ fcells (l.drop n) := by
    conv => lhs; rw [← List.take_append_drop n l]
    unfold fcells; rw [List.flatMap_append]
  have h1 := h.1
  rw [this] at h1
  exact h1.take
end Go.Proofs.YthabfpagilbplaaDoor
/- Chapter 19: limits, plainly; words compared. -/
namespace Go.Sy
open Go Go.RowKit
section
variable {P : Program} {c : Cx} {L : List Nat} {ρ : Env} {blks : List Blk} {m : Mem} {R : Value → HW → Prop} {Dn : Nat → List U → HW → Prop} {A : List (List U → HW → Prop)}
end
end Go.Sy
namespace Go.Proofs.YthabfpagilbplaaDoor
open Go Go.Sy Go.RowKit
/-! All words in one class. -/
end Go.Proofs.YthabfpagilbplaaDoor
