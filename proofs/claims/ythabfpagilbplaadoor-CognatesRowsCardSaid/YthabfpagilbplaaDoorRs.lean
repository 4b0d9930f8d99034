/- Chapter 19: the law Rows: what it takes. -/
import Derived.Test.YthabfpagilbplaaDoorBl
set_option linter.unusedSimpArgs false
set_option linter.unusedVariables false
namespace Go.Sy
open Go Go.RowKit
theorem ecells_snoc (l : List ED) (x : ED) : ecells (l ++ [x]) = ecells l ++ [x.g, x.v] := by simp [ecells]
theorem ecells_set (l : List ED) (j : Nat) (hj : j < l.length) (x : ED) (hx : x.g = l[j].g) : (ecells l).set (j * 2 + 1) x.v = ecells (l.set j x) := by
  induction l generalizing j with
  | nil => simp at hj
  | cons y l ih =>
    cases j with
    | zero =>
      simp only [List.getElem_cons_zero] at hx
      simp [ecells, hx]
    | succ j =>
      have := ih j (by simpa using hj) (by simpa using hx)
      simp only [ecells, List.set_cons_succ, List.flatMap_cons, List.cons_append, List.nil_append] at this ⊢
      rw [← this, show (j + 1) * 2 = (j * 2 + 1) + 1 by omega, List.set_cons_succ]
section
variable {P : Program} {c : Cx} {L : List Nat} {ρ : Env} {blks : List Blk} {m : Mem} {R : Value → HW → Prop} {Dn : Nat → List U → HW → Prop} {A : List (List U → HW → Prop)}
/-- A store into an entry's forms. -/
theorem DenM.storeEF {i : Nat} {I len : IT} {x : SV} {k : Tree} {e : TypeId} {q : Option Addr} {cap : Nat} {l : List ED} (j : Nat) (hj : j < l.length) (y : ED) (hy : y.g = l[j].g) (hx : x.den L ρ = y.v) (hR : Row m e 2 q cap l.length (ecells l)) (hp : ρ.ptr i = q) (hI : I.eval ρ = (j : Int)) (hn : len.eval ρ = (l.length : Int))
    (hk : ∀ m' g, q = some ⟨g, 0, none⟩ → Row m' e 2 q cap l.length (ecells (l.set j y)) → (∀ b, b ≠ g → m' b = m b) → DenM P R Dn k L ρ c m' A) :
    DenM P R Dn (.chk (.pick (.cmp .geq I (.lit 0)) (.pick (.cmp .lss I len) (.some i) (.lit false)) (.lit false)) (.chk (.pick (.cmp .geq (.off I 2 (.lit 0)) (.lit 0)) (.some i) (.lit false)) (.store false i (.off (.lit 1) 1 (.off I 2 (.lit 0))) [x] blks k))) L ρ c m A := by
  rcases hR.2 with ⟨_, h, _⟩ | ⟨g, cur, hq, hg, h1, h2, h3, h4⟩
  · omega
  · subst hq
    have hsz : l.length * 2 ≤ cur.size := by rw [h3]; exact Nat.mul_le_mul_right _ h1
    refine .chk ?_ (.chk ?_ (.store g (j * 2 + 1) cur e rfl ?_ hg (by simp; omega) (hk _ g rfl ⟨by rw [ecells_len, List.length_set], .inr ⟨g, _, rfl, Mem.upd_same _ _ _, h1, h2, ?_, ?_⟩⟩ fun b hb => Mem.upd_other _ _ hb)))
    · simp only [BT.eval, IT.eval, hI, hn, hp, cm, pick_and]; simp; omega
    · simp only [BT.eval, IT.eval, hI, hp, cm, pick_and]; simp; omega
    · simp only [atAddr, hp, IT.eval, hI, Option.map_some, addr_add]
      rw [show ((0 : Int) + (j : Int) * ((2 : Nat) : Int) + (1 : Int) * ((1 : Nat) : Int)).toNat = j * 2 + 1 by omega]; simp
    · simp only [putAt, SV.dens, List.size_toArray, List.length_append, List.length_take, List.length_drop, List.length_cons, List.length_nil, Array.length_toList]; omega
    · have hput : putAt cur.toList (j * 2 + 1) (SV.dens L ρ [x]) = cur.toList.set (j * 2 + 1) (x.den L ρ) := by
        unfold putAt
        rw [List.set_eq_take_append_cons_drop, if_pos (by simp; omega)]
        simp [SV.dens]
      rw [hput, List.take_set, h4, hx, ecells_set l j hj y hy]
end
end Go.Sy
namespace Go.Proofs.YthabfpagilbplaaDoor
open Go Go.Sy Go.RowKit
theorem elE : El Tryd.prog 76 78 2 40 := El.of (by kernel_rfl)
/-- Entries whose forms are spelt, in memory of one's own. -/
structure EM (m : Mem) (q : Option Addr) (cq : Nat) (es : List ED) : Prop where
  out : Row m 78 2 q cq es.length (ecells es)
  inn : ∀ x ∈ es, x.l.length ≤ x.cap ∧ (∀ f ∈ x.l, SpF f) ∧ x.g = .string ⟨#[63]⟩ ∧ ∃ l n, x.l = l.take n ∧ SpM m x.p x.cap l
theorem EM.at {m : Mem} {q : Option Addr} {cq : Nat} {es : List ED} (h : EM m q cq es) : EntriesAt m.mv q es := ⟨Mem.mv_row h.out, fun x hx => by
  obtain ⟨_, _, _, l, n, e, hM⟩ := h.inn x hx
  rw [e]; exact FormsAt.take hM.mv n⟩
theorem SpM.keep {m m' : Mem} {q : Option Addr} {cq : Nat} {fs : List FD} (h : SpM m q cq fs) {e : TypeId} {size : Nat} {qo : Option Addr} {co no : Nat} {xo : List Value} (ho : Row m e size qo co no xo) (h1 : 50 ≠ e) (h2 : 56 ≠ e) (hk : ∀ b, qo ≠ some ⟨b, 0, none⟩ → m b ≠ none → m' b = m b) : SpM m' q cq fs :=
  ⟨h.out.keep fun b hb hb' => hk b (fun e => h.out.apart ho h1 b hb e) hb', fun f hf => (h.inn f hf).keep fun b hb hb' => hk b (fun e => (h.inn f hf).apart ho h2 b hb e) hb'⟩
theorem SpM.le {m m' : Mem} {q : Option Addr} {cq : Nat} {fs : List FD} (h : SpM m q cq fs) (hle : m.le m') : SpM m' q cq fs := ⟨Row.le h.out hle, fun f hf => Row.le (h.inn f hf) hle⟩
theorem EM.le {m m' : Mem} {q : Option Addr} {cq : Nat} {es : List ED} (h : EM m q cq es) (hle : m.le m') : EM m' q cq es := ⟨Row.le h.out hle, fun x hx => by
  obtain ⟨h1, h2, h3, l, n, h4, h5⟩ := h.inn x hx
  exact ⟨h1, h2, h3, l, n, h4, h5.le hle⟩⟩
/-- An entry's forms, as far as the shortest. -/
def cutE (n : Nat) (x : ED) : ED := ⟨x.g, x.p, x.cap, x.l.take n⟩
def mixE (n : Nat) (es : List ED) (i : Nat) : List ED := (es.take i).map (cutE n) ++ es.drop i
theorem mixE_len (n : Nat) (es : List ED) (i : Nat) : (mixE n es i).length = es.length := by simp [mixE]; omega
theorem mixE_zero (n : Nat) (es : List ED) : mixE n es 0 = es := by simp [mixE]
theorem mixE_all (n : Nat) (es : List ED) : mixE n es es.length = es.map (cutE n) := by simp [mixE]
theorem mixE_at (n : Nat) (es : List ED) (i : Nat) (h : i < es.length) : (mixE n es i)[i]'(by rw [mixE_len]; exact h) = es[i] := by
  unfold mixE
  rw [List.getElem_append_right (by simp; omega)]
  simp only [List.length_map, List.length_take, List.getElem_drop]
  congr 1; omega
theorem mixE_set (n : Nat) (es : List ED) (i : Nat) (h : i < es.length) : (mixE n es i).set i (cutE n es[i]) = mixE n es (i + 1) := by
  unfold mixE
  rw [List.set_append_right _ _ (by simp; omega)]
  have e : i - ((es.take i).map (cutE n)).length = 0 := by simp; omega
  rw [e, List.drop_eq_getElem_cons h, List.set_cons_zero, List.take_succ_eq_append_getElem h, List.map_append]
  simp
theorem EM.cut {m m' : Mem} {q : Option Addr} {cq n : Nat} {es : List ED} {i : Nat} (h : EM m q cq (mixE n es i)) (hi : i < es.length) {g : Nat} (hq : q = some ⟨g, 0, none⟩) (hr : Row m' 78 2 q cq (mixE n es i).length (ecells ((mixE n es i).set i (cutE n es[i])))) (hs : ∀ b, b ≠ g → m' b = m b) : EM m' q cq (mixE n es (i + 1)) := by
  rw [mixE_set n es i hi] at hr
  rw [mixE_len] at hr
  refine ⟨by rw [mixE_len]; exact hr, fun x hx => ?_⟩
  have old : ∀ y ∈ mixE n es i, ∃ l k, y.l = l.take k ∧ SpM m' y.p y.cap l := fun y hy => by
    obtain ⟨_, _, _, l, k, h4, h5⟩ := h.inn y hy
    exact ⟨l, k, h4, h5.keep h.out (by decide) (by decide) fun b hb _ => hs b fun e => hb (by rw [hq, e])⟩
  rw [← mixE_set n es i hi] at hx
  rcases List.mem_or_eq_of_mem_set hx with hx | rfl
  · obtain ⟨h1, h2, h3, _⟩ := h.inn x hx
    exact ⟨h1, h2, h3, old x hx⟩
  · have hm : es[i] ∈ mixE n es i := by
      have := List.getElem_mem (l := mixE n es i) (n := i) (by rw [mixE_len]; exact hi)
      rwa [mixE_at n es i hi] at this
    obtain ⟨h1, h2, h3, _⟩ := h.inn _ hm
    obtain ⟨l, k, h4, h5⟩ := old _ hm
    refine ⟨?_, fun f hf => h2 f (List.mem_of_mem_take hf), h3, l, min n k, ?_, h5⟩
    · show (es[i].l.take n).length ≤ es[i].cap
      rw [List.length_take]; omega
    · show es[i].l.take n = _
      rw [h4, List.take_take]
/-! What the table's rows have. -/
theorem tableE_ok {ws : List Int} {gap : Int} {es : List ED} {N D : Int} {n : Nat} (hc : checkC ws gap = 0) (hl : es.length ≤ 256) (h16 : n ≤ 16) (hn : ∀ x ∈ es, x.l.length = n) (hsp : ∀ x ∈ es, ∀ f ∈ x.l, SpF f) (hd : limB N D = true) : tableE ws gap es N D = (es.map fun x => labelsF ws gap x.l N D, 0) := by
  have hlong : es.any longE = false := List.any_eq_false.2 fun x hx => by unfold longE; have := hn x hx; simp; omega
  have hhead : es.any (oddE (headE es)) = false := List.any_eq_false.2 fun x hx => by
    have h0 : headE es = n := by
      cases es with
      | nil => cases hx
      | cons y t => exact hn y (by simp)
    unfold oddE
    rw [h0, hn x hx, SpF.blank (hsp x hx)]; simp
  have hwords : wordsT es = 0 := wordsT_none fun i hi => SpF.words (hsp _ (List.getElem_mem hi))
  unfold tableE
  rw [if_neg (by simp [hc]), if_neg (by rw [hlong]; simp; omega), if_neg (by rw [hhead]; simp), if_neg (by simp [hwords]), if_pos hd]
  congr 1
  apply List.map_congr_left
  intro x hx
  rw [labelsE_ok (SpF.chk (hsp x hx) (by have := hn x hx; omega) hc hd)]
theorem shared_ok {ts : List IR} {n : Nat} (hl : ts.length ≤ 256) (hn : ∀ r ∈ ts, r.l.length = n) (hlow : ∀ r ∈ ts, ∀ x ∈ r.l, -1 ≤ x) (A B : Nat) :
    sharedE ts A B = if ts.length = 0 ∨ n ≤ A ∨ n ≤ B then ((0, 0), 3) else (lowest (ts.countP (sameR A B) : Nat) (max (ts.countP (bothR A B)) 1 : Nat), 0) := by
  have hbad : ts.any (badR (headL ts)) = false := List.any_eq_false.2 fun r hr => by
    have h0 : headL ts = n := by
      cases ts with
      | nil => cases hr
      | cons y t => exact hn y (by simp)
    have hlow' : r.l.any lowB = false := List.any_eq_false.2 fun x hx => by unfold lowB; have := hlow r hr x hx; simp; omega
    unfold badR
    rw [h0, hn r hr, hlow']; simp
  unfold sharedE
  rw [if_neg (by omega), if_neg (by rw [hbad]; simp)]
  by_cases h0 : ts.length = 0
  · rw [if_pos (.inl h0), if_pos (.inl h0)]
  · have hh : headL ts = n := by
      cases ts with
      | nil => simp at h0
      | cons y t => exact hn y (by simp)
    rw [hh]
    by_cases h1 : n ≤ A ∨ n ≤ B
    · rw [if_pos (by omega), if_pos (by omega)]
    · rw [if_neg (by omega), if_neg (by omega)]; rfl
theorem both_comm (A B : Nat) (r : IR) : bothR A B r = bothR B A r := by unfold bothR; rw [Bool.and_comm]
theorem same_comm (A B : Nat) (r : IR) : sameR A B r = sameR B A r := by unfold sameR; rw [both_comm]; congr 1; exact decide_eq_decide.2 ⟨Eq.symm, Eq.symm⟩
theorem count_comm (A B : Nat) (ts : List IR) : ts.countP (sameR A B) = ts.countP (sameR B A) ∧ ts.countP (bothR A B) = ts.countP (bothR B A) :=
  ⟨by congr 1; funext r; exact same_comm A B r, by congr 1; funext r; exact both_comm A B r⟩
end Go.Proofs.YthabfpagilbplaaDoor
