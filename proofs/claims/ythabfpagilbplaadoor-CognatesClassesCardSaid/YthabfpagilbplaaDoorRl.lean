/- Chapter 19: the law Classes. -/
import Derived.Test.YthabfpagilbplaaDoorRk
import Derived.Test.YthabfpagilbplaaDoorTj
import Derived.Test.YthabfpagilbplaaDoorTcClasses
set_option linter.unusedSimpArgs false
set_option linter.unusedVariables false
namespace Go.Proofs.YthabfpagilbplaaDoor
open Go Go.Sy Go.RowKit
theorem c_isNaNI (x : Int) : Ret Tryd.prog n_cmp_isNaN_int_ [.int .i64 x] (.bool false) := by
  refine Fn.of S_cmp_isNaN_int_ mx [.i x] rfl rfl fun c _ => .ret rfl ?_
  show Value.bool (x != x) = _
  simp
theorem c_lessI (x y : Int) : Ret Tryd.prog n_cmp_Less_int_ [.int .i64 x, .int .i64 y] (.bool (decide (x < y))) := by
  refine Fn.of S_cmp_Less_int_ mx [.i x, .i y] rfl rfl fun c _ => .callV (c_isNaNI x) (fun _ => trivial) (.env (by (try simp only [liE, letsOf, letU, snd, List.append_nil]); rfl) (.no rfl (.ret rfl rfl)))
theorem c_sorted (p : Option Addr) (cp : Nat) (l : List Int) (hl : l.length < 2 ^ 62) (hs : ∀ i, i + 1 < l.length → labAt l i ≤ labAt l (i + 1)) : RetP Tryd.prog n_slices_IsSorted___int_int_ [slv p l.length cp] (fun R => Cells R p (intsL l)) (.bool true) := by
  refine Fn.of S_slices_IsSorted___int_int_ mx [.p p, .i l.length, .i cp] rfl rfl fun c hp => .chk (by ((try simp only [evE, liE, letsOf, letU, snd]); (try simp only [cmE])); omega) ?_
  have e1 : ar .sub .i64 (l.length : Int) 1 = (l.length : Int) - 1 := wrap_i64 (by omega) (by omega)
  refine .loop (fun n us _ => ∃ e : Bool, us = [.b e, .i ((n : Int) - 1)] ∧ n ≤ l.length) l.length ⟨false, by show [U.b false, U.i (ar .sub .i64 (l.length : Int) 1)] = _; rw [e1], Nat.le_refl _⟩ ?_
  rintro n us m _ ⟨e, rfl, hn⟩
  refine .env (by (try simp only [liE, letsOf, letU, snd, List.append_nil]); rfl) (.ite (fun h => ?_) (fun h => .ret rfl rfl)) <;> ((try simp only [evE, liE, letsOf, letU, snd] at h); (try simp only [cmE] at h))
  obtain ⟨j, rfl⟩ : ∃ j, n = j + 2 := ⟨n - 2, by omega⟩
  have e2 : ar .sub .i64 (((j + 2 : Nat) : Int) - 1) 1 = (j : Int) := by
    rw [show ar .sub .i64 (((j + 2 : Nat) : Int) - 1) 1 = (((j + 2 : Nat) : Int) - 1) - 1 from wrap_i64 (by omega) (by omega)]; omega
  refine .elem1 (.int .i64 (labAt l (j + 1))) (intsL l) (j + 1) l.length (by show ((j + 2 : Nat) : Int) - 1 = _; omega) rfl (by omega) (fun g => hp.mono g.R) (intsL_at _ _ (by omega)) (.env (by (try simp only [liE, letsOf, letU, snd, List.append_nil]); rfl) (.elem1 (.int .i64 (labAt l j)) (intsL l) j l.length (by show ar .sub .i64 (((j + 2 : Nat) : Int) - 1) 1 = _; exact e2) rfl (by omega) (fun g => hp.mono g.R) (intsL_at _ _ (by omega)) (.env (by (try simp only [liE, letsOf, letU, snd, List.append_nil]); rfl) ?_)))
  have hc := c_lessI (labAt l (j + 1)) (labAt l j)
  rw [decide_eq_false (by have := hs j (by omega); omega)] at hc
  refine .callV hc (fun _ => trivial) (.env (by (try simp only [liE, letsOf, letU, snd, List.append_nil]); rfl) (.no rfl (.again rfl ⟨j + 1, by omega, e, ?_, by omega⟩)))
  show [U.b e, U.i (ar .sub .i64 (((j + 2 : Nat) : Int) - 1) 1)] = _
  rw [e2]; congr 3; omega
/-! What the sets are. -/
theorem memb_pair (l : List Int) (k : Int) (n : Nat) : (memb l k n).Pairwise (· < ·) := by
  unfold memb
  rw [List.pairwise_map]
  exact ((List.pairwise_lt_range).filter _).imp fun h => by omega
theorem memb_lt {l : List Int} {k : Int} {n i j : Nat} (hij : i < j) (hj : j < (memb l k n).length) : labAt (memb l k n) i < labAt (memb l k n) j := by
  have := List.pairwise_iff_getElem.1 (memb_pair l k n) i j (by omega) hj hij
  rw [labAt_get (by omega), labAt_get hj]; exact this
theorem memb_in {l : List Int} {k : Int} {n i : Nat} (hi : i < (memb l k n).length) : ∃ j : Nat, j < n ∧ labAt l j = k ∧ labAt (memb l k n) i = (j : Int) := by
  rw [labAt_get hi]
  obtain ⟨j, h1, h2, h3⟩ := mem_memb.1 (List.getElem_mem hi)
  exact ⟨j, h1, h2, h3⟩
theorem memb_first {l : List Int} {n k : Nat} (hg : GoodS l n) (hk : k ∈ heads l n) : 0 < (memb l (k : Int) n).length ∧ labAt (memb l (k : Int) n) 0 = (k : Int) := by
  obtain ⟨h1, h2⟩ := mem_heads.1 hk
  have hm : (k : Int) ∈ memb l (k : Int) n := mem_memb.2 ⟨k, h1, h2, rfl⟩
  obtain ⟨t, ht, he⟩ := List.mem_iff_getElem.1 hm
  refine ⟨by omega, ?_⟩
  obtain ⟨j, h3, h4, h5⟩ := memb_in (l := l) (k := (k : Int)) (n := n) (i := 0) (by omega)
  rw [h5]
  have hkj : k ≤ j := by
    rcases hg j h3 with h | ⟨k', h6, h7, _⟩ <;> omega
  rcases Nat.eq_zero_or_pos t with h0 | h0
  · subst h0
    rw [labAt_get ht, he] at h5; exact h5.symm
  · have := memb_lt (l := l) (k := (k : Int)) (n := n) h0 ht
    rw [h5, labAt_get ht, he] at this
    omega
theorem heads_lt {l : List Int} {n i j a b : Nat} (hij : i < j) (ha : (heads l n)[i]? = some a) (hb : (heads l n)[j]? = some b) : a < b := by
  obtain ⟨h1, rfl⟩ := List.getElem?_eq_some_iff.1 ha
  obtain ⟨h2, rfl⟩ := List.getElem?_eq_some_iff.1 hb
  have : (heads l n).Pairwise (· < ·) := (List.pairwise_lt_range).filter _
  exact List.pairwise_iff_getElem.1 this i j h1 h2 hij
/-- How many are labelled. -/
def cntL (l : List Int) : Nat → Nat
  | 0 => 0
  | i + 1 => cntL l i + if 0 ≤ labAt l i then 1 else 0
theorem cntL_le (l : List Int) (i : Nat) : cntL l i ≤ i := by
  induction i with
  | zero => exact Nat.le_refl _
  | succ i ih => unfold cntL; split <;> omega
def lens (rs : List (List Int)) : Nat := (rs.map List.length).sum
theorem lens_set {rs : List (List Int)} {t : Nat} {x y : List Int} (h : rs[t]? = some x) (hy : y.length = x.length + 1) : lens (rs.set t y) = lens rs + 1 := by
  induction rs generalizing t with
  | nil => simp at h
  | cons r rs ih =>
    cases t with
    | zero => simp at h; subst h; simp [lens, hy]; omega
    | succ t =>
      have := ih (t := t) (by simpa using h)
      simp only [lens, List.set_cons_succ, List.map_cons, List.sum_cons] at *
      omega
theorem lens_grp {l : List Int} {n : Nat} (hg : GoodS l n) : lens (grpE l n) = cntL l n := by
  induction n with
  | zero => rfl
  | succ i ih =>
    have ih := ih fun j hj => hg j (by omega)
    unfold cntL
    rcases hg i (by omega) with h | ⟨k, h, hk, hkk⟩
    · rw [grp_none (by omega), ih, if_neg (by omega)]; rfl
    · rw [if_pos (by omega)]
      by_cases e : k = i
      · subst e
        rw [grp_new hg h, ← ih]
        simp [lens]
      · rw [grp_old h (by omega) hkk, lens_set (grp_at (by omega) hkk) (by simp), ih]
theorem lens_take (rs : List (List Int)) (t : Nat) (h : t < rs.length) : lens (rs.take (t + 1)) = lens (rs.take t) + rs[t].length := by
  rw [List.take_succ_eq_append_getElem h]
  simp only [lens, List.map_append, List.sum_append, List.map_cons, List.map_nil, List.sum_cons, List.sum_nil]; omega
theorem lens_mono (rs : List (List Int)) (t : Nat) : lens (rs.take t) ≤ lens rs := by
  conv => rhs; rw [← List.take_append_drop t rs]
  simp only [lens, List.map_append, List.sum_append]; omega
theorem labAt_snoc {l : List Int} {v : Int} {i : Nat} (h : i < l.length) : labAt (l ++ [v]) i = labAt l i := by
  unfold labAt; rw [List.getElem?_append_left h]
theorem labAt_last {l : List Int} {v : Int} : labAt (l ++ [v]) l.length = v := by
  unfold labAt; rw [List.getElem?_append_right (Nat.le_refl _)]; simp
theorem goodS_snoc {l : List Int} {v : Int} (h : GoodS l l.length) (hv : v = -1 ∨ v = (l.length : Int) ∨ ∃ k : Nat, v = (k : Int) ∧ k < l.length ∧ labAt l k = (k : Int)) : GoodS (l ++ [v]) (l.length + 1) := fun j hj => by
  rcases Nat.lt_or_ge j l.length with h1 | h1
  · rcases h j h1 with h2 | ⟨k, h2, h3, h4⟩
    · exact .inl (by rw [labAt_snoc h1]; exact h2)
    · exact .inr ⟨k, by rw [labAt_snoc h1]; exact h2, h3, by rw [labAt_snoc (by omega)]; exact h4⟩
  · have : j = l.length := by omega
    subst this
    rw [labAt_last]
    rcases hv with rfl | rfl | ⟨k, rfl, h2, h3⟩
    · exact .inl rfl
    · exact .inr ⟨l.length, rfl, Nat.le_refl _, labAt_last⟩
    · exact .inr ⟨k, rfl, by omega, by rw [labAt_snoc h2]; exact h3⟩
theorem setsE_good {l : List Int} (hl : l.length ≤ 256) (hg : GoodS l l.length) : setsE l = (grpE l l.length, 0) := by
  unfold setsE
  rw [if_neg (by omega), badS_none fun i hi => ?_]
  · rfl
  · rcases hg i hi with h | ⟨k, h, hk, hkk⟩
    · unfold badS; rw [h]; rfl
    · exact badS_no ⟨by omega, by omega, by rw [h]; exact hkk⟩
end Go.Proofs.YthabfpagilbplaaDoor
