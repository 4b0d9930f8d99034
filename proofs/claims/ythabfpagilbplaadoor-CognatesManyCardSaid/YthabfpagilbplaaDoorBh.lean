/- Chapter 19: sums of fractions, plain. -/
import Derived.Test.YthabfpagilbplaaDoorBg
import Derived.Test.YthabfpagilbplaaDoorNc
import Derived.Test.YthabfpagilbplaaDoorTg
set_option linter.unusedSimpArgs false
set_option linter.unusedVariables false
/- Chapter 19: sums of fractions, plain. -/
namespace Go.Sy
structure FrOk (M V N D : Nat) : Prop where
  dvd : D ∣ M
  val : N * (M / D) = V
  low : Nat.gcd N D = 1
theorem FrOk.pos {M V N D : Nat} (h : FrOk M V N D) (hM : 0 < M) : 0 < D := Nat.pos_of_dvd_of_pos h.dvd hM
theorem fr_of {M V n d : Nat} (hM : 0 < M) (hd : d ∣ M) (hv : n * (M / d) = V) : FrOk M V (n / Nat.gcd n d) (d / Nat.gcd n d) := by
  have hd0 : 0 < d := Nat.pos_of_dvd_of_pos hd hM
  have hg : 0 < Nat.gcd n d := Nat.gcd_pos_of_pos_right n hd0
  obtain ⟨n', hn⟩ := Nat.gcd_dvd_left n d
  obtain ⟨d', hd'⟩ := Nat.gcd_dvd_right n d
  obtain ⟨k, hk⟩ := hd
  have e1 : n / Nat.gcd n d = n' := Nat.div_eq_of_eq_mul_right hg hn
  have e2 : d / Nat.gcd n d = d' := Nat.div_eq_of_eq_mul_right hg hd'
  have hd'0 : 0 < d' := by
    rcases Nat.eq_zero_or_pos d' with h | h
    · rw [h, Nat.mul_zero] at hd'; omega
    · exact h
  have e3 : M / d = k := by rw [hk, Nat.mul_div_cancel_left _ hd0]
  refine ⟨?_, ?_, Nat.gcd_div_gcd_div_gcd_of_pos_right hd0⟩
  · rw [e2, hk]
    exact Nat.dvd_mul_right_of_dvd (by rw [hd']; exact Nat.dvd_mul_left _ _) k
  · rw [e1, e2]
    have e4 : M / d' = Nat.gcd n d * k := by
      have : M = d' * (Nat.gcd n d * k) := by rw [hk]; conv => lhs; rw [hd']
                                              rw [Nat.mul_comm (Nat.gcd n d) d', Nat.mul_assoc]
      rw [this, Nat.mul_div_cancel_left _ hd'0]
    rw [e4, ← hv, e3, ← Nat.mul_assoc]
    congr 1
    rw [Nat.mul_comm]; exact hn.symm
theorem FrOk.unique {M V N D : Nat} (h : FrOk M V N D) (hM : 0 < M) : N = V / Nat.gcd V M ∧ D = M / Nat.gcd V M := by
  obtain ⟨k, hk⟩ := h.dvd
  have hD := h.pos hM
  have e : M / D = k := by rw [hk, Nat.mul_div_cancel_left _ hD]
  have hv := h.val
  rw [e] at hv
  have hk0 : 0 < k := by
    rcases Nat.eq_zero_or_pos k with h | h
    · rw [h, Nat.mul_zero] at hk; omega
    · exact h
  have hg : Nat.gcd V M = k := by rw [← hv, hk, Nat.gcd_mul_right, h.low, Nat.one_mul]
  rw [hg, ← hv]
  conv => rhs; rw [hk]
  exact ⟨(Nat.mul_div_cancel _ hk0).symm, (Nat.mul_div_cancel _ hk0).symm⟩
theorem fr_zero {M : Nat} : FrOk M 0 0 1 := ⟨Nat.one_dvd _, Nat.zero_mul _, rfl⟩
theorem FrOk.le {M V N D c : Nat} (h : FrOk M V N D) (hM : 0 < M) (hV : V ≤ c * M) : N ≤ c * D := by
  obtain ⟨k, hk⟩ := h.dvd
  have hD := h.pos hM
  have e : M / D = k := by rw [hk, Nat.mul_div_cancel_left _ hD]
  have hv := h.val
  rw [e] at hv
  have hk0 : 0 < k := by
    rcases Nat.eq_zero_or_pos k with h | h
    · rw [h, Nat.mul_zero] at hk; omega
    · exact h
  refine Nat.le_of_mul_le_mul_right ?_ hk0
  rw [hv, Nat.mul_assoc, ← hk]; exact hV
theorem fr_add {M V N D V' N' D' : Nat} (hM : 0 < M) (h : FrOk M V N D) (h' : FrOk M V' N' D') :
    D / Nat.gcd D D' * D' ∣ M ∧ (N * (D' / Nat.gcd D D') + N' * (D / Nat.gcd D D')) * (M / (D / Nat.gcd D D' * D')) = V + V' ∧ D / Nat.gcd D D' * D' = D * (D' / Nat.gcd D D') ∧ D / Nat.gcd D D' * D' / D = D' / Nat.gcd D D' ∧ D / Nat.gcd D D' * D' / D' = D / Nat.gcd D D' := by
  have hD := h.pos hM
  have hD' := h'.pos hM
  have hg : 0 < Nat.gcd D D' := Nat.gcd_pos_of_pos_left D' hD
  obtain ⟨d, hd⟩ := Nat.gcd_dvd_left D D'
  obtain ⟨d', hd'⟩ := Nat.gcd_dvd_right D D'
  have e1 : D / Nat.gcd D D' = d := Nat.div_eq_of_eq_mul_right hg hd
  have e2 : D' / Nat.gcd D D' = d' := Nat.div_eq_of_eq_mul_right hg hd'
  rw [e1, e2]
  have e3 : d * D' = D * d' := by
    conv => lhs; rw [hd']
    conv => rhs; rw [hd]
    rw [Nat.mul_left_comm, Nat.mul_comm d d', Nat.mul_comm (Nat.gcd D D') d, Nat.mul_comm (d * _) d', Nat.mul_comm d (Nat.gcd D D'), Nat.mul_left_comm]
  have hl : Nat.lcm D D' = d * D' := by
    rw [e3]
    exact Nat.div_eq_of_eq_mul_right hg ((congrArg (D * ·) hd').trans (Nat.mul_left_comm _ _ _))
  have hdv : d * D' ∣ M := by rw [← hl]; exact Nat.lcm_dvd h.dvd h'.dvd
  refine ⟨hdv, ?_, e3, by rw [e3, Nat.mul_div_cancel_left _ hD], Nat.mul_div_cancel _ hD'⟩
  obtain ⟨k, hk⟩ := hdv
  have hd0 : 0 < d := by
    rcases Nat.eq_zero_or_pos d with h | h
    · rw [h, Nat.mul_zero] at hd; omega
    · exact h
  have hd'0 : 0 < d' := by
    rcases Nat.eq_zero_or_pos d' with h | h
    · rw [h, Nat.mul_zero] at hd'; omega
    · exact h
  have q0 : M / (d * D') = k := by rw [hk, Nat.mul_div_cancel_left _ (Nat.mul_pos hd0 hD')]
  have q1 : M / D = d' * k := by rw [hk, e3, Nat.mul_assoc, Nat.mul_div_cancel_left _ hD]
  have q2 : M / D' = d * k := by rw [hk, Nat.mul_comm d D', Nat.mul_assoc, Nat.mul_div_cancel_left _ hD']
  have v1 := h.val
  have v2 := h'.val
  rw [q1] at v1
  rw [q2] at v2
  rw [q0, ← v1, ← v2, Nat.add_mul, Nat.mul_assoc, Nat.mul_assoc]
end Go.Sy
namespace Go.Proofs.YthabfpagilbplaaDoor
open Go Go.Sy Go.RowKit
theorem lowest_nat (n d : Nat) : lowest (n : Int) (d : Int) = (((n / Nat.gcd n d : Nat) : Int), ((d / Nat.gcd n d : Nat) : Int)) := by
  unfold lowest gcdI
  simp only [Int.toNat_natCast]
  rw [Int.tdiv_eq_ediv_of_nonneg (by omega), Int.tdiv_eq_ediv_of_nonneg (by omega)]
  norm_cast
def ddL {α : Type} [DecidableEq α] : List α → List α
  | [] => []
  | x :: l => if x ∈ ddL l then ddL l else x :: ddL l
theorem ddL_mem {α : Type} [DecidableEq α] : ∀ (l : List α) (x : α), x ∈ ddL l ↔ x ∈ l
  | [], _ => Iff.rfl
  | y :: l, x => by
    unfold ddL
    split
    · rename_i h
      rw [ddL_mem l x, List.mem_cons]
      exact ⟨.inr, fun h' => h'.elim (fun e => e ▸ (ddL_mem l y).1 h) id⟩
    · rw [List.mem_cons, List.mem_cons, ddL_mem l x]
theorem ddL_nodup {α : Type} [DecidableEq α] (l : List α) : (ddL l).Nodup := by
  induction l with
  | nil => exact List.nodup_nil
  | cons x l ih =>
    unfold ddL
    split
    · exact ih
    · rename_i h; exact List.nodup_cons.2 ⟨h, ih⟩
variable (π : Int × Int → Int) (ps : List (Int × Int))
def ownN (p : Int × Int) : Nat := cnt (π p) (ps.map π)
def lam : Nat := lcmL ((ddL (ps.map π)).map fun x => cnt x (ps.map π))
def vAll : Nat := sumN (fun p => cnt p ps * (lam π ps / ownN π ps p)) ps
def cubP : Int × Int := if ps.length = 0 then (1, 1) else lowest (lowest (vAll π ps : Nat) (lam π ps : Nat)).1 ((lowest (vAll π ps : Nat) (lam π ps : Nat)).2 * (ps.length : Int))
end Go.Proofs.YthabfpagilbplaaDoor
/- Chapter 19: shares of elements, plain. -/
namespace Go.Sy
theorem dvd_lcmL {S : List Nat} {s : Nat} (h : s ∈ S) : s ∣ lcmL S := by
  induction S with
  | nil => simp at h
  | cons x S ih =>
    show s ∣ Nat.lcm x (lcmL S)
    rcases List.mem_cons.1 h with rfl | h
    · exact Nat.dvd_lcm_left ..
    · exact Nat.dvd_trans (ih h) (Nat.dvd_lcm_right ..)
theorem lcmL_pos {S : List Nat} (h : ∀ s ∈ S, 1 ≤ s) : 0 < lcmL S := by
  induction S with
  | nil => decide
  | cons x S ih => exact Nat.lcm_pos (h x (.head _)) (ih fun s hs => h s (.tail _ hs))
theorem sumN_le {α : Type} {g h : α → Nat} {l : List α} (e : ∀ x ∈ l, g x ≤ h x) : sumN g l ≤ sumN h l := by
  induction l with
  | nil => exact Nat.le_refl _
  | cons x l ih => rw [sumN_cons, sumN_cons]; have := e x (.head _); have := ih fun y hy => e y (.tail _ hy); omega
theorem sumN_const {α : Type} (c : Nat) (l : List α) : sumN (fun _ => c) l = l.length * c := by
  induction l with
  | nil => simp [sumN]
  | cons x l ih => rw [sumN_cons, ih, List.length_cons, Nat.succ_mul]; omega
theorem sumN_mul {α : Type} (g : α → Nat) (c : Nat) (l : List α) : sumN (fun x => g x * c) l = sumN g l * c := by
  induction l with
  | nil => simp [sumN]
  | cons x l ih => rw [sumN_cons, sumN_cons, ih, Nat.add_mul]
theorem sum_cnt {α : Type} [DecidableEq α] {D : List α} (hn : D.Nodup) (g : α → Nat) : ∀ ks : List α, (∀ x ∈ ks, x ∈ D) → sumN (fun x => g x * cnt x ks) D = sumN g ks
  | [], _ => sumN_zero fun x _ => by simp [cnt]
  | y :: l, h => by
    have : sumN (fun x => g x * cnt x (y :: l)) D = sumN (fun x => g x * cnt x l + if x = y then g y else 0) D := sumN_congr fun x _ => by
      rw [cnt_cons, Nat.mul_add]
      by_cases e : x = y
      · subst e; simp
      · rw [if_neg e, if_neg e, Nat.mul_zero]
    rw [this, sumN_add, sum_cnt hn g l fun z hz => h z (.tail _ hz), sumN_one y _ hn (h y (.head _)), sumN_cons]; omega
theorem cnt_pos {α : Type} [DecidableEq α] {x : α} {l : List α} (h : x ∈ l) : 1 ≤ cnt x l := List.count_pos_iff.2 h
theorem cnt_map_le {α β : Type} [DecidableEq α] [DecidableEq β] (f : α → β) (x : α) (l : List α) : cnt x l ≤ cnt (f x) (l.map f) := by
  induction l with
  | nil => exact Nat.le_refl _
  | cons y l ih =>
    rw [List.map_cons, cnt_cons, cnt_cons]
    by_cases h : x = y
    · rw [if_pos h, if_pos (by rw [h])]; omega
    · rw [if_neg h]; split <;> omega
end Go.Sy
namespace Go.Proofs.YthabfpagilbplaaDoor
open Go Go.Sy Go.RowKit
theorem lam_ok (π : Int × Int → Int) (ps : List (Int × Int)) (h : ps.length ≤ 256) : 0 < lam π ps ∧ lam π ps ≤ 2 ^ 54 ∧ ∀ p ∈ ps, ownN π ps p ∣ lam π ps := by
  have h1 : ∀ s ∈ (ddL (ps.map π)).map (fun x => cnt x (ps.map π)), 1 ≤ s := fun s hs => by
    obtain ⟨x, hx, rfl⟩ := List.mem_map.1 hs
    exact cnt_pos ((ddL_mem _ _).1 hx)
  have h2 : ((ddL (ps.map π)).map (fun x => cnt x (ps.map π))).sum ≤ 256 := by
    have := sum_cnt (ddL_nodup (ps.map π)) (fun _ => 1) (ps.map π) fun x hx => (ddL_mem _ _).2 hx
    rw [sumN_const, Nat.mul_one, List.length_map] at this
    have e : sumN (fun x => 1 * cnt x (ps.map π)) (ddL (ps.map π)) = ((ddL (ps.map π)).map (fun x => cnt x (ps.map π))).sum := sumN_congr fun x _ => Nat.one_mul _
    omega
  refine ⟨lcmL_pos h1, landau h1 h2, fun p hp => dvd_lcmL (List.mem_map.2 ⟨π p, (ddL_mem _ _).2 (List.mem_map_of_mem hp), rfl⟩)⟩
theorem own_ok (π : Int × Int → Int) {ps : List (Int × Int)} {p : Int × Int} (hp : p ∈ ps) : 1 ≤ ownN π ps p ∧ ownN π ps p ≤ ps.length ∧ cnt p ps ≤ ownN π ps p := by
  refine ⟨cnt_pos (List.mem_map_of_mem hp), ?_, cnt_map_le π p ps⟩
  have := cnt_le (π p) (ps.map π)
  rwa [List.length_map] at this
theorem part_le (π : Int × Int → Int) {ps : List (Int × Int)} (h : ps.length ≤ 256) {p : Int × Int} (hp : p ∈ ps) : cnt p ps * (lam π ps / ownN π ps p) ≤ lam π ps := by
  have h1 := own_ok π hp
  refine Nat.le_trans (Nat.mul_le_mul_right _ h1.2.2) ?_
  rw [Nat.mul_div_cancel' ((lam_ok π ps h).2.2 p hp)]; exact Nat.le_refl _
theorem vAll_le (π : Int × Int → Int) {ps : List (Int × Int)} (h : ps.length ≤ 256) : vAll π ps ≤ 256 * lam π ps := by
  have h1 : vAll π ps ≤ sumN (fun _ => lam π ps) ps := sumN_le fun p hp => part_le π h hp
  rw [sumN_const] at h1
  exact Nat.le_trans h1 (Nat.mul_le_mul_right _ h)
def sqP (π : Int × Int → Int) (ps : List (Int × Int)) (s : Nat) : Nat := sumN (fun p => if ownN π ps p = s then cnt p ps else 0) ps
def vLt (π : Int × Int → Int) (ps : List (Int × Int)) (s : Nat) : Nat := sumN (fun p => if ownN π ps p < s then cnt p ps * (lam π ps / ownN π ps p) else 0) ps
theorem vLt_zero (π : Int × Int → Int) (ps : List (Int × Int)) : vLt π ps 0 = 0 := sumN_zero fun p _ => if_neg (by omega)
theorem vLt_succ (π : Int × Int → Int) (ps : List (Int × Int)) (s : Nat) : vLt π ps (s + 1) = vLt π ps s + sqP π ps s * (lam π ps / s) := by
  unfold vLt sqP
  rw [← sumN_mul, ← sumN_add]
  refine sumN_congr fun p _ => ?_
  by_cases h : ownN π ps p = s
  · rw [if_pos (by omega), if_neg (by omega), if_pos h, h]; omega
  · rw [if_neg h]
    by_cases h2 : ownN π ps p < s
    · rw [if_pos (by omega), if_pos h2]; omega
    · rw [if_neg (by omega), if_neg h2]; omega
theorem vLt_all (π : Int × Int → Int) {ps : List (Int × Int)} (h : ps.length ≤ 256) : vLt π ps 257 = vAll π ps := sumN_congr fun p hp => if_pos (by have := (own_ok π hp).2.1; omega)
theorem vLt_le (π : Int × Int → Int) (ps : List (Int × Int)) (s : Nat) : vLt π ps s ≤ vAll π ps := sumN_le fun p _ => by split <;> omega
theorem sqP_pos {π : Int × Int → Int} {ps : List (Int × Int)} {s : Nat} (h : 0 < sqP π ps s) : ∃ p ∈ ps, ownN π ps p = s := by
  refine Classical.byContradiction fun hn => ?_
  have : sqP π ps s = 0 := sumN_zero fun p hp => if_neg fun e => hn ⟨p, hp, e⟩
  omega
theorem sqP_le (π : Int × Int → Int) {ps : List (Int × Int)} (h : ps.length ≤ 256) (s : Nat) : sqP π ps s ≤ 65536 := by
  have h1 : sqP π ps s ≤ sumN (fun _ => 256) ps := sumN_le fun p _ => by
    have := cnt_le p ps
    split <;> omega
  rw [sumN_const] at h1; omega
theorem sq_sum (π : Int × Int → Int) {ps D : List (Int × Int)} (hn : D.Nodup) (hD : ∀ x ∈ ps, x ∈ D) (s : Nat) : sumN (fun x => if ownN π ps x = s then cnt x ps * cnt x ps else 0) D = sqP π ps s := by
  have := sum_cnt hn (fun x => if ownN π ps x = s then cnt x ps else 0) ps hD
  rw [← show sumN (fun x => (if ownN π ps x = s then cnt x ps else 0) * cnt x ps) D = sumN (fun x => if ownN π ps x = s then cnt x ps * cnt x ps else 0) D from sumN_congr fun x _ => by split <;> simp]
  exact this
end Go.Proofs.YthabfpagilbplaaDoor
/- Chapter 19: Cubed. -/
namespace Go.Proofs.YthabfpagilbplaaDoor
open Go Go.Sy Go.RowKit Go.MapKept Go.ChangeMaps
theorem frac_le {M n d c : Nat} (hM : 0 < M) (hd : d ∣ M) (h : n * (M / d) ≤ c * M) : n ≤ c * d := by
  obtain ⟨k, hk⟩ := hd
  have hd0 : 0 < d := Nat.pos_of_dvd_of_pos ⟨k, hk⟩ hM
  have e : M / d = k := by rw [hk, Nat.mul_div_cancel_left _ hd0]
  have hk0 : 0 < k := by
    rcases Nat.eq_zero_or_pos k with h | h
    · rw [h, Nat.mul_zero] at hk; omega
    · exact h
  refine Nat.le_of_mul_le_mul_right ?_ hk0
  rw [e] at h
  rw [Nat.mul_assoc, ← hk]; exact h
theorem mulN {a b : Nat} (h : a * b ≤ 2 ^ 62) : ar .mul .i64 (a : Int) (b : Int) = ((a * b : Nat) : Int) := by
  have e : (a : Int) * (b : Int) = ((a * b : Nat) : Int) := by norm_cast
  rw [mulI (by rw [e]; omega) (by rw [e]; omega), e]
theorem addN {a b : Nat} (h : a + b ≤ 2 ^ 62) : ar .add .i64 (a : Int) (b : Int) = ((a + b : Nat) : Int) := by
  rw [addI (by omega) (by omega)]; norm_cast
theorem fr_bound {M V N D V' N' D' : Nat} (hM : 0 < M) (hM54 : M ≤ 2 ^ 54) (h : FrOk M V N D) (h' : FrOk M V' N' D') (hV : V + V' ≤ 256 * M) :
    D / Nat.gcd D D' * D' ≤ 2 ^ 54 ∧ N * (D' / Nat.gcd D D') + N' * (D / Nat.gcd D D') ≤ 2 ^ 62 ∧ N * (D' / Nat.gcd D D') ≤ 2 ^ 62 ∧ N' * (D / Nat.gcd D D') ≤ 2 ^ 62 ∧ 0 < D / Nat.gcd D D' * D' := by
  obtain ⟨a1, a2, a3, _⟩ := fr_add hM h h'
  have h1 := Nat.le_of_dvd hM a1
  have h2 := frac_le (c := 256) hM a1 (by rw [a2]; exact hV)
  have h3 := Nat.pos_of_dvd_of_pos a1 hM
  omega
theorem c_plus {M V N D V' N' D' : Nat} (hM : 0 < M) (hM54 : M ≤ 2 ^ 54) (h : FrOk M V N D) (h' : FrOk M V' N' D') (hV : V + V' ≤ 256 * M) : ∃ n d : Nat, FrOk M (V + V') n d ∧ Ret Tryd.prog n_cognates_plus [.agg #[.int .i64 N, .int .i64 D], .agg #[.int .i64 N', .int .i64 D']] (.agg #[.int .i64 n, .int .i64 d]) := by
  obtain ⟨a1, a2, a3, _⟩ := fr_add hM h h'
  obtain ⟨b1, b2, b3, b4, b5⟩ := fr_bound hM hM54 h h' hV
  have hD := h.pos hM
  have hD' := h'.pos hM
  have lD := Nat.le_of_dvd hM h.dvd
  have lD' := Nat.le_of_dvd hM h'.dvd
  refine ⟨_, _, fr_of hM a1 a2, ?_⟩
  have k1 := c_lowest19 (D : Nat) (D' : Nat) (by omega) (by omega)
  rw [lowest_nat] at k1
  have k2 := c_lowest19 ((N * (D' / Nat.gcd D D') + N' * (D / Nat.gcd D D') : Nat) : Int) ((D / Nat.gcd D D' * D' : Nat) : Int) (by omega) (by omega)
  rw [lowest_nat] at k2
  refine Fn.of S_cognates_plus mx [.i N, .i D, .i N', .i D'] rfl rfl fun c _ => .alloc fun l0 => .alloc fun l1 => .alloc fun l2 => .callV k1 (fun _ => trivial) (.alloc fun l3 => .env (by (try simp only [liE, lO, lU, snd, aN]); rfl) (.callV k2 (fun _ => trivial) (.env (by (try simp only [liE, lO, lU, snd, aN]); rfl) (.ret rfl rfl)) (hargs := ?_)))
  show [Value.int .i64 (ar .add .i64 (ar .mul .i64 (N : Int) ((D' / Nat.gcd D D' : Nat) : Int)) (ar .mul .i64 (N' : Int) ((D / Nat.gcd D D' : Nat) : Int))), .int .i64 (ar .mul .i64 (D : Int) ((D' / Nat.gcd D D' : Nat) : Int))] = _
  rw [mulN b3, mulN b4, addN b2, mulN (by rw [← a3]; omega), a3]
def sqL (f : Nat → Nat) : List Value := (List.range 257).map fun s => .int .i64 (f s : Nat)
theorem sqL_at (f : Nat → Nat) (s : Nat) (h : s < 257) : (sqL f)[s]? = some (.int .i64 (f s : Nat)) := by
  unfold sqL; rw [List.getElem?_map, List.getElem?_range h]; rfl
theorem sqL_len (f : Nat → Nat) : (sqL f).length = 257 := by simp [sqL]
theorem sqL_set (f : Nat → Nat) (s v : Nat) (h : s < 257) : (sqL f).set s (.int .i64 (v : Nat)) = sqL fun t => if t = s then v else f t := by
  apply List.ext_getElem?
  intro t
  rw [List.getElem?_set]
  by_cases e : s = t
  · subst e; rw [if_pos rfl, if_pos (by rw [sqL_len]; exact h), sqL_at _ s h, if_pos rfl]
  · rw [if_neg e]
    rcases Nat.lt_or_ge t 257 with h2 | h2
    · rw [sqL_at _ t h2, sqL_at _ t h2, if_neg (Ne.symm e)]
    · rw [List.getElem?_eq_none (by rw [sqL_len]; exact h2), List.getElem?_eq_none (by rw [sqL_len]; exact h2)]
theorem sqL_zero : sqL (fun _ => 0) = List.replicate 257 (.int .i64 0) := by
  unfold sqL
  apply List.ext_getElem?
  intro t
  rw [List.getElem?_map, List.getElem?_replicate]
  split
  · rename_i h; rw [List.getElem?_range h]; rfl
  · rename_i h; rw [List.getElem?_eq_none (by simpa using h)]; rfl
theorem big257 : bigCells Tryd.prog 2 (some 257) = List.replicate 257 (.int .i64 0) := by kernel_rfl
def MK (m m' : Mem) : Prop := ∀ b es k, m b = some (.map es k) → m' b = some (.map es k)
theorem MK.step {m m' m'' : Mem} {g : Nat} (h : MK m m') (hg : ∀ es k, m' g ≠ some (.map es k)) (hk : ∀ b, b ≠ g → m'' b = m' b) : MK m m'' := fun b es k hb => by
  have := h b es k hb
  rw [hk b (fun e => hg es k (e ▸ this))]; exact this
theorem CtM.maps {m m' : Mem} {b0 b1 b2 : Nat} {ps : List (Int × Int)} (h : CtM m b0 b1 b2 ps) (hk : MK m m') : CtM m' b0 b1 b2 ps := by
  obtain ⟨⟨e0, t0, m0, C0⟩, ⟨e1, t1, m1, C1⟩, ⟨e2, t2, m2, C2⟩, hne⟩ := h
  exact ⟨⟨e0, t0, hk _ _ _ m0, C0⟩, ⟨e1, t1, hk _ _ _ m1, C1⟩, ⟨e2, t2, hk _ _ _ m2, C2⟩, hne⟩
def dec2 : Value → Int × Int
  | .agg ⟨[.int _ a, .int _ b]⟩ => (a, b)
  | _ => (0, 0)
theorem dec2_enc (x : Int × Int) : dec2 (enc2 x) = x := rfl
def gE (π : Int × Int → Int) (ps : List (Int × Int)) (s : Nat) (e : MapEntry) : Nat := if ownN π ps (dec2 e.key) = s then vN e.val * vN e.val else 0
theorem gE_all (π : Int × Int → Int) {es : Array MapEntry} {clock : Nat} {ps : List (Int × Int)} (C : Cnt2 es clock ps) (s : Nat) : sumN (gE π ps s) es.toList = sqP π ps s := by
  obtain ⟨D, h1, h2, h3⟩ := C.sum fun k n => if ownN π ps (dec2 k) = s then n * n else 0
  rw [← sq_sum π h1 h2 s]
  exact h3
theorem row_cells {m : Mem} {e : TypeId} {s n : Nat} {xs : List Value} (h : Row m e 1 (some ⟨s, 0, none⟩) n n xs) : ∃ cur, m s = some (.cells cur e (0, 0)) := by
  rcases h.2 with ⟨h, _⟩ | ⟨g, cur, h, hg, _⟩
  · cases h
  · cases h; exact ⟨cur, hg⟩
def cubedE (a b : List Int) : ((Int × Int) × (Int × Int)) × Int := if wrongW a b ≠ 0 then (((0, 0), (0, 0)), wrongW a b) else ((cubP (·.1) (valV a b a.length), cubP (·.2) (valV a b a.length)), 0)
theorem cub_end {π : Int × Int → Int} {ps : List (Int × Int)} (h256 : ps.length ≤ 256) (h0 : ps.length ≠ 0) {N D : Nat} (h : FrOk (lam π ps) (vAll π ps) N D) : lowest (N : Int) ((D * ps.length : Nat) : Int) = cubP π ps ∧ N ≤ 2 ^ 62 ∧ D * ps.length ≤ 2 ^ 62 ∧ 0 < D * ps.length := by
  obtain ⟨l1, l2, _⟩ := lam_ok π ps h256
  have hD := h.pos l1
  have hD2 := Nat.le_of_dvd l1 h.dvd
  have hN := h.le l1 (vAll_le π h256)
  have hu := h.unique l1
  refine ⟨?_, by omega, Nat.le_trans (Nat.mul_le_mul (Nat.le_trans hD2 l2) h256) (by decide), Nat.mul_pos hD (by omega)⟩
  unfold cubP
  rw [if_neg h0, lowest_nat (vAll π ps) (lam π ps), ← hu.1, ← hu.2]
  congr 1
theorem c_Cubed (p q : Option Addr) (cp cq : Nat) (a b : List Int) (ha : a.length < 2 ^ 63) (hb : b.length < 2 ^ 63) : RetP Tryd.prog n_cognates_Cubed [slv p a.length cp, slv q b.length cq] (fun R => Cells R p (intsL a) ∧ Cells R q (intsL b)) (res3V (cubedE a b)) := by
  refine Fn.of S_cognates_Cubed mx [.p p, .i a.length, .i cp, .p q, .i b.length, .i cq] rfl rfl fun c hp => .alloc fun l0 => .alloc fun l1 => .callV (c_wrong p q cp cq a b ha hb) (fun g => ⟨hp.1.mono g.R, hp.2.mono g.R⟩) (.env (by (try simp only [liE, lO, lU, snd, aN]); rfl) (.ite (fun h1 => .ret rfl ?_) (fun h1 => ?_))) <;> ((try simp only [evE, liE, lO, lU, snd] at h1); (try simp only [cmE] at h1))
  · unfold cubedE; rw [if_pos h1]; rfl
  have h0 : wrongW a b = 0 := by simpa using h1
  obtain ⟨h256, hlb⟩ := wrong_ok h0
  unfold cubedE
  rw [if_neg (by simp [h0])]
  have hcnt := c_counted p q cp cq a b hlb h256
  have hvl := valV_len a b a.length
  generalize valV a b a.length = ps at *
  rw [hlb]
  refine .callM hcnt rfl rfl (fun g => ⟨hp.1.mono g.R, hp.2.mono g.R⟩) ?_
  rintro v mq hfr ⟨b0, b1, b2, rfl, hM⟩
  refine ⟨[.i (ps.length : Nat), .v (.map (some b0)), .v (.map (some b1)), .v (.map (some b2))], uOk_of rfl, rfl, .env (by (try simp only [liE, lO, lU, snd, aN]); rfl) (.alloc fun l2 => .alloc fun l3 => .ite (fun h2 => .ret rfl ?_) (fun h2 => .alloc fun l4 => ?_))⟩ <;> ((try simp only [evE, liE, lO, lU, snd] at h2); (try simp only [cmE] at h2))
  · unfold cubP
    rw [if_pos (by omega), if_pos (by omega)]; rfl
  have hps0 : ps.length ≠ 0 := by omega
  replace h256 : ps.length ≤ 256 := by omega
  clear hcnt hvl hfr
  rw [show Mem.emp.join mq = mq from rfl]
  refine .loop (fun n us m => ∃ i : Nat, i ≤ 2 ∧ n = 2 - i ∧ CtM m b0 b1 b2 ps ∧ us = [.i i, .i (if 0 < i then (cubP (fun x : Int × Int => x.1) ps).1 else 0), .i (if 0 < i then (cubP (fun x : Int × Int => x.1) ps).2 else 0), .i (if 1 < i then (cubP (fun x : Int × Int => x.2) ps).1 else 0), .i (if 1 < i then (cubP (fun x : Int × Int => x.2) ps).2 else 0)]) 2 ⟨0, by omega, rfl, hM, rfl⟩ ?_
  rintro n us m2 _ ⟨i, hi, rfl, hM2, rfl⟩
  obtain rfl | rfl | rfl : i = 0 ∨ i = 1 ∨ i = 2 := by omega
  · obtain ⟨l1, l2, l3⟩ := lam_ok (fun x : Int × Int => x.1) ps h256
    obtain ⟨e0, t0, m0, C0⟩ := hM2.both
    obtain ⟨eo, to, mo, Co⟩ := hM2.own0
    obtain ⟨f0, M0, F0⟩ := C0.map
    obtain ⟨fo, Mo, Fo⟩ := Co.map
    refine .env (by (try simp only [liE, lO, lU, snd, aN]); rfl) (.yes rfl (.chk rfl (.chk rfl (.yes rfl (.allocb fun s hs hsL _ => ?_)))))
    rw [big257, ← sqL_zero]
    have hmk1 : MK m2 (m2.upd s (.cells (sqL fun _ => 0).toArray 2 (0, 0))) := MK.step (fun _ _ _ h => h) (fun es k h => by rw [hs] at h; cases h) fun b hb => Mem.upd_other _ _ hb
    refine .env (by (try simp only [liE, lO, lU, snd, aN]); rfl) (.mkIter e0 b0 t0 um2 (hmk1 _ _ _ m0) (fun r hr hrL => ?_))
    have hsr : s ≠ r := fun e => by rw [← e, Mem.upd_same] at hr; cases hr
    refine .loop (fun n us m' => us = [] ∧ ∃ (seen : Array Nat) (f : Nat → Nat), n = (leftOf e0 seen).toList.length ∧ MK m2 m' ∧ m' r = some (.mapIter (some b0) t0 seen t0) ∧ Row m' 2 1 (some ⟨s, 0, none⟩) 257 257 (sqL f) ∧ ∀ σ, f σ + sumN (gE (fun x : Int × Int => x.1) ps σ) (leftOf e0 seen).toList = sqP (fun x : Int × Int => x.1) ps σ) e0.toList.length ⟨rfl, #[], fun _ => 0, by rw [leftOf_nil], MK.step hmk1 (fun es k h => by rw [hr] at h; cases h) fun b hb => Mem.upd_other _ _ hb, Mem.upd_same .., ?_, fun σ => by rw [leftOf_nil, gE_all (fun x : Int × Int => x.1) C0, Nat.zero_add]⟩ ?_
    · refine ⟨by rw [sqL_len], .inr ⟨s, _, rfl, by rw [Mem.upd_other _ _ hsr, Mem.upd_same], Nat.le_refl _, by decide, by rw [List.size_toArray, sqL_len], ?_⟩⟩
      rw [List.toList_toArray, List.take_of_length_le (by rw [sqL_len]; exact Nat.le_refl _)]
    rintro n us m' _ ⟨rfl, seen, f, rfl, hmk, hit, hrow, hf⟩
    obtain ⟨cur, hcur⟩ := row_cells hrow
    have hb0 := hmk _ _ _ m0
    refine .env (by (try simp only [liE, lO, lU, snd, aN]); rfl) (.next e0 b0 r t0 seen (fun e => lU e.key ++ lU e.val) hit hb0 M0 (fun e he => ?_) (fun e he => ?_) (fun h0 => ?_))
    · obtain ⟨x, _, q1, q2⟩ := CntM.entry C0 he
      rw [q1, q2]
      exact ⟨key2.ok x _, key2.den _ _ x _⟩
    · have hes := left_mem he
      obtain ⟨x, hx, q1, q2⟩ := CntM.entry C0 hes
      have hlen := left_step M0.bn he (fun _ => 1)
      have hst := fun σ => left_step M0.bn he (gE (fun x : Int × Int => x.1) ps σ)
      have hge : ∀ σ, gE (fun x : Int × Int => x.1) ps σ e = if ownN (fun x : Int × Int => x.1) ps x = σ then cnt x ps * cnt x ps else 0 := fun σ => by
        unfold gE; rw [q1, q2, dec2_enc]; rfl
      have ho := own_ok (fun x : Int × Int => x.1) hx
      have hc256 : cnt x ps ≤ 256 := by omega
      have hcc : cnt x ps * cnt x ps ≤ 65536 := Nat.mul_le_mul hc256 hc256
      have hfo := hf (ownN (fun x : Int × Int => x.1) ps x)
      have hsq := sqP_le (fun x : Int × Int => x.1) h256 (ownN (fun x : Int × Int => x.1) ps x)
      have hmr : ∀ es k, m' r ≠ some (.map es k) := fun es k h => by rw [hit] at h; cases h
      have hmk3 : MK m2 (m'.upd r (.mapIter (some b0) t0 (seen.push e.born) t0)) := MK.step hmk hmr fun b hb => Mem.upd_other _ _ hb
      rw [q1, q2, show lU (enc2 x) ++ lU (.int .i64 (cnt x ps : Nat)) = [U.i x.1, .i x.2, .i (cnt x ps : Nat)] from rfl]
      refine .env (by (try simp only [liE, lO, lU, snd, aN]); rfl) (.entryIt e0 b0 r t0 seen e [U.i x.1, .i x.2, .i (cnt x ps : Nat)] he (Mem.upd_same ..) (hmk3 _ _ _ m0) M0 (uOk_of rfl) (by rw [q1, q2]; rfl) (.env (by (try simp only [liE, lO, lU, snd, aN]); rfl) (.alloc fun l5 => .chk rfl (.chk rfl (.yes rfl (?_))))))
      have gl := CntM.get (isK := IsKey (.int .i64)) (es := eo) (clock := to) Fo x.1
      refine .lookupK kitI (.int .i64 0) (encI x.1) eo to fo b1 [.i (ownN (fun x : Int × Int => x.1) ps x : Nat)] umI z64 rfl (Co.isk _) (hmk3 _ _ _ mo) Mo (uOk_of rfl) (gl.trans rfl) (.env (by (try simp only [liE, lO, lU, snd, aN]); rfl) ?_)
      have hrow3 : Row (m'.upd r (.mapIter (some b0) t0 (seen.push e.born) t0)) 2 1 (some ⟨s, 0, none⟩) 257 257 (sqL f) := hrow.keep fun g hg _ => by cases hg; exact Mem.upd_other _ _ hsr
      refine .elem1 (.int .i64 (f (ownN (fun x : Int × Int => x.1) ps x) : Nat)) (sqL f) (ownN (fun x : Int × Int => x.1) ps x) 257 rfl rfl (by omega) (fun g => hrow3.reads g) (sqL_at _ _ (by omega)) (.env (by (try simp only [liE, lO, lU, snd, aN]); rfl) (.storeR (ownN (fun x : Int × Int => x.1) ps x) (by omega) hrow3 rfl rfl rfl fun m5 g hg hr5 hk5 => .again rfl ⟨_, ?_, rfl, seen.push e.born, fun t => if t = ownN (fun x : Int × Int => x.1) ps x then f (ownN (fun x : Int × Int => x.1) ps x) + cnt x ps * cnt x ps else f t, rfl, ?_, ?_, ?_, fun σ => ?_⟩))
      · have q1 : ∀ l : List MapEntry, sumN (fun _ => 1) l = l.length := fun l => by rw [sumN_const, Nat.mul_one]
        rw [q1, q1] at hlen; omega
      · cases hg
        refine MK.step hmk3 (fun es k h => ?_) hk5
        rw [Mem.upd_other _ _ hsr, hcur] at h; cases h
      · cases hg
        rw [hk5 r (Ne.symm hsr), Mem.upd_same]
      · replace hr5 : Row m5 2 1 (some ⟨s, 0, none⟩) 257 257 ((sqL f).set (ownN (fun x : Int × Int => x.1) ps x) (.int .i64 (ar .add .i64 (f (ownN (fun x : Int × Int => x.1) ps x) : Nat) (ar .mul .i64 (cnt x ps : Nat) (cnt x ps : Nat))))) := hr5
        rw [mulN (by omega), addN (by have := hst (ownN (fun x : Int × Int => x.1) ps x); have := hge (ownN (fun x : Int × Int => x.1) ps x); rw [if_pos rfl] at this; omega), sqL_set _ _ _ (by omega)] at hr5
        exact hr5
      · have h1 := hst σ
        rw [hge] at h1
        have h2 := hf σ
        dsimp only
        by_cases e' : σ = ownN (fun x : Int × Int => x.1) ps x
        · subst e'; rw [if_pos rfl] at h1 ⊢; omega
        · rw [if_neg (Ne.symm e')] at h1; rw [if_neg e']; omega
    · have hnil : (leftOf e0 seen).toList = [] := List.length_eq_zero_iff.1 (by simpa using h0)
      have hf2 : ∀ σ, f σ = sqP (fun x : Int × Int => x.1) ps σ := fun σ => by have := hf σ; rw [hnil] at this; simpa [sumN] using this
      have hM3 := hM2.maps hmk
      refine .env (by (try simp only [liE, lO, lU, snd, aN]); rfl) (.alloc fun l6 => ?_)
      refine .loop (fun n us m'' => m' = m'' ∧ ∃ (σ N D : Nat), σ ≤ 257 ∧ n = 257 - σ ∧ us = [.i σ, .i N, .i D] ∧ FrOk (lam (fun x : Int × Int => x.1) ps) (vLt (fun x : Int × Int => x.1) ps σ) N D) 257 ⟨rfl, 0, 0, 1, by omega, rfl, rfl, by rw [vLt_zero]; exact fr_zero⟩ ?_
      rintro n us m'' _ ⟨rfl, σ, N, D, hσ, rfl, rfl, hfr⟩
      refine .env (by (try simp only [liE, lO, lU, snd, aN]); rfl) (.ite (fun h2 => ?_) (fun h2 => ?_)) <;> ((try simp only [evE, liE, lO, lU, snd] at h2); (try simp only [cmE] at h2))
      · have hσ : σ < 257 := by omega
        have hsucc := vLt_succ (fun x : Int × Int => x.1) ps σ
        refine .elem1 (.int .i64 (f σ : Nat)) (sqL f) σ 257 rfl rfl hσ (fun g => hrow.reads g) (sqL_at _ _ hσ) (.env (by (try simp only [liE, lO, lU, snd, aN]); rfl) (.ite (fun h3 => ?_) (fun h3 => ?_))) <;> ((try simp only [evE, liE, lO, lU, snd] at h3); (try simp only [cmE] at h3))
        · have hpos : 0 < sqP (fun x : Int × Int => x.1) ps σ := by rw [← hf2]; omega
          obtain ⟨p0, hp0, ho0⟩ := sqP_pos hpos
          have ho := own_ok (fun x : Int × Int => x.1) hp0
          have hdv := l3 p0 hp0
          rw [ho0] at ho hdv
          have hb := sqP_le (fun x : Int × Int => x.1) h256 σ
          have klo := c_lowest19 (f σ : Nat) (σ : Nat) (by rw [hf2]; omega) (by omega)
          rw [lowest_nat] at klo
          have hfl := fr_of l1 hdv (rfl : f σ * (lam (fun x : Int × Int => x.1) ps / σ) = f σ * (lam (fun x : Int × Int => x.1) ps / σ))
          have hle := vLt_le (fun x : Int × Int => x.1) ps (σ + 1)
          rw [hsucc, ← hf2] at hle
          obtain ⟨n2, d2, hfr2, kpl⟩ := c_plus l1 l2 hfr hfl (Nat.le_trans hle (vAll_le (fun x : Int × Int => x.1) h256))
          refine .callV klo (fun _ => trivial) (.env (by (try simp only [liE, lO, lU, snd, aN]); rfl) (.callV kpl (fun _ => trivial) (.env (by (try simp only [liE, lO, lU, snd, aN]); rfl) (.again rfl ⟨257 - (σ + 1), by omega, rfl, σ + 1, n2, d2, by omega, rfl, ?_, by rw [hsucc, ← hf2]; exact hfr2⟩))))
          (simp only [evE, liE, lO, lU, snd, Sh.uss, Sh.us, atAddr, map_add0, List.append_nil]); rw [add_i64 σ (by omega)]
        · have hz : sqP (fun x : Int × Int => x.1) ps σ = 0 := by rw [← hf2]; omega
          refine .again rfl ⟨257 - (σ + 1), by omega, rfl, σ + 1, N, D, by omega, rfl, ?_, by rw [hsucc, hz, Nat.zero_mul, Nat.add_zero]; exact hfr⟩
          (simp only [evE, liE, lO, lU, snd, Sh.uss, Sh.us, atAddr, map_add0, List.append_nil]); rw [add_i64 σ (by omega)]
      · have : σ = 257 := by omega
        subst this
        rw [vLt_all (fun x : Int × Int => x.1) h256] at hfr
        obtain ⟨hend, g1, g2, g3⟩ := cub_end h256 hps0 hfr
        have klo := c_lowest19 (N : Nat) ((D * ps.length : Nat) : Int) (by omega) (by omega)
        rw [hend] at klo
        refine .callV klo (fun _ => trivial) (.env (by (try simp only [liE, lO, lU, snd, aN]); rfl) (.chk rfl (.chk rfl (.yes rfl (.again rfl ⟨1, by omega, 1, by omega, rfl, hM3, ?_⟩))))) (hargs := ?_)
        · show _ = [U.i ((1 : Nat) : Int), .i (cubP (fun x : Int × Int => x.1) ps).1, .i (cubP (fun x : Int × Int => x.1) ps).2, .i 0, .i 0]; rfl
        · show [Value.int .i64 (N : Int), .int .i64 (ar .mul .i64 (D : Int) (ps.length : Int))] = _
          rw [mulN g2]
  · obtain ⟨l1, l2, l3⟩ := lam_ok (fun x : Int × Int => x.2) ps h256
    obtain ⟨e0, t0, m0, C0⟩ := hM2.both
    obtain ⟨eo, to, mo, Co⟩ := hM2.own1
    obtain ⟨f0, M0, F0⟩ := C0.map
    obtain ⟨fo, Mo, Fo⟩ := Co.map
    refine .env (by (try simp only [liE, lO, lU, snd, aN]); rfl) (.yes rfl (.chk rfl (.chk rfl (.no rfl (.yes rfl (.allocb fun s hs hsL _ => ?_))))))
    rw [big257, ← sqL_zero]
    have hmk1 : MK m2 (m2.upd s (.cells (sqL fun _ => 0).toArray 2 (0, 0))) := MK.step (fun _ _ _ h => h) (fun es k h => by rw [hs] at h; cases h) fun b hb => Mem.upd_other _ _ hb
    refine .env (by (try simp only [liE, lO, lU, snd, aN]); rfl) (.mkIter e0 b0 t0 um2 (hmk1 _ _ _ m0) (fun r hr hrL => ?_))
    have hsr : s ≠ r := fun e => by rw [← e, Mem.upd_same] at hr; cases hr
    refine .loop (fun n us m' => us = [] ∧ ∃ (seen : Array Nat) (f : Nat → Nat), n = (leftOf e0 seen).toList.length ∧ MK m2 m' ∧ m' r = some (.mapIter (some b0) t0 seen t0) ∧ Row m' 2 1 (some ⟨s, 0, none⟩) 257 257 (sqL f) ∧ ∀ σ, f σ + sumN (gE (fun x : Int × Int => x.2) ps σ) (leftOf e0 seen).toList = sqP (fun x : Int × Int => x.2) ps σ) e0.toList.length ⟨rfl, #[], fun _ => 0, by rw [leftOf_nil], MK.step hmk1 (fun es k h => by rw [hr] at h; cases h) fun b hb => Mem.upd_other _ _ hb, Mem.upd_same .., ?_, fun σ => by rw [leftOf_nil, gE_all (fun x : Int × Int => x.2) C0, Nat.zero_add]⟩ ?_
    · refine ⟨by rw [sqL_len], .inr ⟨s, _, rfl, by rw [Mem.upd_other _ _ hsr, Mem.upd_same], Nat.le_refl _, by decide, by rw [List.size_toArray, sqL_len], ?_⟩⟩
      rw [List.toList_toArray, List.take_of_length_le (by rw [sqL_len]; exact Nat.le_refl _)]
    rintro n us m' _ ⟨rfl, seen, f, rfl, hmk, hit, hrow, hf⟩
    obtain ⟨cur, hcur⟩ := row_cells hrow
    have hb0 := hmk _ _ _ m0
    refine .env (by (try simp only [liE, lO, lU, snd, aN]); rfl) (.next e0 b0 r t0 seen (fun e => lU e.key ++ lU e.val) hit hb0 M0 (fun e he => ?_) (fun e he => ?_) (fun h0 => ?_))
    · obtain ⟨x, _, q1, q2⟩ := CntM.entry C0 he
      rw [q1, q2]
      exact ⟨key2.ok x _, key2.den _ _ x _⟩
    · have hes := left_mem he
      obtain ⟨x, hx, q1, q2⟩ := CntM.entry C0 hes
      have hlen := left_step M0.bn he (fun _ => 1)
      have hst := fun σ => left_step M0.bn he (gE (fun x : Int × Int => x.2) ps σ)
      have hge : ∀ σ, gE (fun x : Int × Int => x.2) ps σ e = if ownN (fun x : Int × Int => x.2) ps x = σ then cnt x ps * cnt x ps else 0 := fun σ => by
        unfold gE; rw [q1, q2, dec2_enc]; rfl
      have ho := own_ok (fun x : Int × Int => x.2) hx
      have hc256 : cnt x ps ≤ 256 := by omega
      have hcc : cnt x ps * cnt x ps ≤ 65536 := Nat.mul_le_mul hc256 hc256
      have hfo := hf (ownN (fun x : Int × Int => x.2) ps x)
      have hsq := sqP_le (fun x : Int × Int => x.2) h256 (ownN (fun x : Int × Int => x.2) ps x)
      have hmr : ∀ es k, m' r ≠ some (.map es k) := fun es k h => by rw [hit] at h; cases h
      have hmk3 : MK m2 (m'.upd r (.mapIter (some b0) t0 (seen.push e.born) t0)) := MK.step hmk hmr fun b hb => Mem.upd_other _ _ hb
      rw [q1, q2, show lU (enc2 x) ++ lU (.int .i64 (cnt x ps : Nat)) = [U.i x.1, .i x.2, .i (cnt x ps : Nat)] from rfl]
      refine .env (by (try simp only [liE, lO, lU, snd, aN]); rfl) (.entryIt e0 b0 r t0 seen e [U.i x.1, .i x.2, .i (cnt x ps : Nat)] he (Mem.upd_same ..) (hmk3 _ _ _ m0) M0 (uOk_of rfl) (by rw [q1, q2]; rfl) (.env (by (try simp only [liE, lO, lU, snd, aN]); rfl) (.alloc fun l5 => .chk rfl (.chk rfl (.no rfl (.yes rfl (?_)))))))
      have gl := CntM.get (isK := IsKey (.int .i64)) (es := eo) (clock := to) Fo x.2
      refine .lookupK kitI (.int .i64 0) (encI x.2) eo to fo b2 [.i (ownN (fun x : Int × Int => x.2) ps x : Nat)] umI z64 rfl (Co.isk _) (hmk3 _ _ _ mo) Mo (uOk_of rfl) (gl.trans rfl) (.env (by (try simp only [liE, lO, lU, snd, aN]); rfl) ?_)
      have hrow3 : Row (m'.upd r (.mapIter (some b0) t0 (seen.push e.born) t0)) 2 1 (some ⟨s, 0, none⟩) 257 257 (sqL f) := hrow.keep fun g hg _ => by cases hg; exact Mem.upd_other _ _ hsr
      refine .elem1 (.int .i64 (f (ownN (fun x : Int × Int => x.2) ps x) : Nat)) (sqL f) (ownN (fun x : Int × Int => x.2) ps x) 257 rfl rfl (by omega) (fun g => hrow3.reads g) (sqL_at _ _ (by omega)) (.env (by (try simp only [liE, lO, lU, snd, aN]); rfl) (.storeR (ownN (fun x : Int × Int => x.2) ps x) (by omega) hrow3 rfl rfl rfl fun m5 g hg hr5 hk5 => .again rfl ⟨_, ?_, rfl, seen.push e.born, fun t => if t = ownN (fun x : Int × Int => x.2) ps x then f (ownN (fun x : Int × Int => x.2) ps x) + cnt x ps * cnt x ps else f t, rfl, ?_, ?_, ?_, fun σ => ?_⟩))
      · have q1 : ∀ l : List MapEntry, sumN (fun _ => 1) l = l.length := fun l => by rw [sumN_const, Nat.mul_one]
        rw [q1, q1] at hlen; omega
      · cases hg
        refine MK.step hmk3 (fun es k h => ?_) hk5
        rw [Mem.upd_other _ _ hsr, hcur] at h; cases h
      · cases hg
        rw [hk5 r (Ne.symm hsr), Mem.upd_same]
      · replace hr5 : Row m5 2 1 (some ⟨s, 0, none⟩) 257 257 ((sqL f).set (ownN (fun x : Int × Int => x.2) ps x) (.int .i64 (ar .add .i64 (f (ownN (fun x : Int × Int => x.2) ps x) : Nat) (ar .mul .i64 (cnt x ps : Nat) (cnt x ps : Nat))))) := hr5
        rw [mulN (by omega), addN (by have := hst (ownN (fun x : Int × Int => x.2) ps x); have := hge (ownN (fun x : Int × Int => x.2) ps x); rw [if_pos rfl] at this; omega), sqL_set _ _ _ (by omega)] at hr5
        exact hr5
      · have h1 := hst σ
        rw [hge] at h1
        have h2 := hf σ
        dsimp only
        by_cases e' : σ = ownN (fun x : Int × Int => x.2) ps x
        · subst e'; rw [if_pos rfl] at h1 ⊢; omega
        · rw [if_neg (Ne.symm e')] at h1; rw [if_neg e']; omega
    · have hnil : (leftOf e0 seen).toList = [] := List.length_eq_zero_iff.1 (by simpa using h0)
      have hf2 : ∀ σ, f σ = sqP (fun x : Int × Int => x.2) ps σ := fun σ => by have := hf σ; rw [hnil] at this; simpa [sumN] using this
      have hM3 := hM2.maps hmk
      refine .env (by (try simp only [liE, lO, lU, snd, aN]); rfl) (.alloc fun l6 => ?_)
      refine .loop (fun n us m'' => m' = m'' ∧ ∃ (σ N D : Nat), σ ≤ 257 ∧ n = 257 - σ ∧ us = [.i σ, .i N, .i D] ∧ FrOk (lam (fun x : Int × Int => x.2) ps) (vLt (fun x : Int × Int => x.2) ps σ) N D) 257 ⟨rfl, 0, 0, 1, by omega, rfl, rfl, by rw [vLt_zero]; exact fr_zero⟩ ?_
      rintro n us m'' _ ⟨rfl, σ, N, D, hσ, rfl, rfl, hfr⟩
      refine .env (by (try simp only [liE, lO, lU, snd, aN]); rfl) (.ite (fun h2 => ?_) (fun h2 => ?_)) <;> ((try simp only [evE, liE, lO, lU, snd] at h2); (try simp only [cmE] at h2))
      · have hσ : σ < 257 := by omega
        have hsucc := vLt_succ (fun x : Int × Int => x.2) ps σ
        refine .elem1 (.int .i64 (f σ : Nat)) (sqL f) σ 257 rfl rfl hσ (fun g => hrow.reads g) (sqL_at _ _ hσ) (.env (by (try simp only [liE, lO, lU, snd, aN]); rfl) (.ite (fun h3 => ?_) (fun h3 => ?_))) <;> ((try simp only [evE, liE, lO, lU, snd] at h3); (try simp only [cmE] at h3))
        · have hpos : 0 < sqP (fun x : Int × Int => x.2) ps σ := by rw [← hf2]; omega
          obtain ⟨p0, hp0, ho0⟩ := sqP_pos hpos
          have ho := own_ok (fun x : Int × Int => x.2) hp0
          have hdv := l3 p0 hp0
          rw [ho0] at ho hdv
          have hb := sqP_le (fun x : Int × Int => x.2) h256 σ
          have klo := c_lowest19 (f σ : Nat) (σ : Nat) (by rw [hf2]; omega) (by omega)
          rw [lowest_nat] at klo
          have hfl := fr_of l1 hdv (rfl : f σ * (lam (fun x : Int × Int => x.2) ps / σ) = f σ * (lam (fun x : Int × Int => x.2) ps / σ))
          have hle := vLt_le (fun x : Int × Int => x.2) ps (σ + 1)
          rw [hsucc, ← hf2] at hle
          obtain ⟨n2, d2, hfr2, kpl⟩ := c_plus l1 l2 hfr hfl (Nat.le_trans hle (vAll_le (fun x : Int × Int => x.2) h256))
          refine .callV klo (fun _ => trivial) (.env (by (try simp only [liE, lO, lU, snd, aN]); rfl) (.callV kpl (fun _ => trivial) (.env (by (try simp only [liE, lO, lU, snd, aN]); rfl) (.again rfl ⟨257 - (σ + 1), by omega, rfl, σ + 1, n2, d2, by omega, rfl, ?_, by rw [hsucc, ← hf2]; exact hfr2⟩))))
          (simp only [evE, liE, lO, lU, snd, Sh.uss, Sh.us, atAddr, map_add0, List.append_nil]); rw [add_i64 σ (by omega)]
        · have hz : sqP (fun x : Int × Int => x.2) ps σ = 0 := by rw [← hf2]; omega
          refine .again rfl ⟨257 - (σ + 1), by omega, rfl, σ + 1, N, D, by omega, rfl, ?_, by rw [hsucc, hz, Nat.zero_mul, Nat.add_zero]; exact hfr⟩
          (simp only [evE, liE, lO, lU, snd, Sh.uss, Sh.us, atAddr, map_add0, List.append_nil]); rw [add_i64 σ (by omega)]
      · have : σ = 257 := by omega
        subst this
        rw [vLt_all (fun x : Int × Int => x.2) h256] at hfr
        obtain ⟨hend, g1, g2, g3⟩ := cub_end h256 hps0 hfr
        have klo := c_lowest19 (N : Nat) ((D * ps.length : Nat) : Int) (by omega) (by omega)
        rw [hend] at klo
        refine .callV klo (fun _ => trivial) (.env (by (try simp only [liE, lO, lU, snd, aN]); rfl) (.chk rfl (.chk rfl (.no rfl (.yes rfl (.again rfl ⟨0, by omega, 2, by omega, rfl, hM3, ?_⟩)))))) (hargs := ?_)
        · show _ = [U.i ((2 : Nat) : Int), .i (cubP (fun x : Int × Int => x.1) ps).1, .i (cubP (fun x : Int × Int => x.1) ps).2, .i (cubP (fun x : Int × Int => x.2) ps).1, .i (cubP (fun x : Int × Int => x.2) ps).2]; rfl
        · show [Value.int .i64 (N : Int), .int .i64 (ar .mul .i64 (D : Int) (ps.length : Int))] = _
          rw [mulN g2]
  · refine .env (by (try simp only [liE, lO, lU, snd, aN]); rfl) (.no rfl (.ret rfl ?_))
    rfl
end Go.Proofs.YthabfpagilbplaaDoor
/- Chapter 19: Cubed of the specification. -/
namespace Go.Proofs.YthabfpagilbplaaDoor
open Go Go.Sy Go.RowKit
end Go.Proofs.YthabfpagilbplaaDoor
/- Chapter 19: what the laws end with. -/
namespace Go.Sy
open Go Go.RowKit
theorem Mem.mv_vw {c : Cx} {L : List Nat} {ρ : Env} {blks : List Blk} {m mq : Mem} (h : ∀ b o, mq b = some o → m b = some o) (g : Good c L m) : mq.mv.le (vw c L ρ blks m) := by
  have key : ∀ b o, mq b = some o → blkMem L ρ L blks m b = some o := fun b o hb => by
    rw [blkMem_not fun hL => by have := (g.blk b hL).1; rw [h b o hb] at this; cases this]; exact h b o hb
  refine ⟨fun b o v hv => ?_, fun b es hv => ?_⟩
  · unfold Mem.mv at hv
    rw [Mv.on_c] at hv
    cases hb : mq b with
    | none => rw [hb] at hv; cases hv
    | some ob =>
      rw [hb] at hv
      unfold vw
      rw [Mv.on_c, key b ob hb]
      cases ob with
      | cells cs e fr => exact hv
      | _ => cases hv
  · unfold Mem.mv at hv
    rw [Mv.on_m] at hv
    cases hb : mq b with
    | none => rw [hb] at hv; cases hv
    | some ob =>
      rw [hb] at hv
      unfold vw
      rw [Mv.on_m, key b ob hb]
      cases ob with
      | map es k => exact hv
      | _ => cases hv
end Go.Sy
namespace Go.Proofs.YthabfpagilbplaaDoor
open Go Go.Sy Go.RowKit
theorem c_frac (n d : Int) : Ret Tryd.prog n_law19_frac [.int .i64 n, .int .i64 d] (.agg #[.int .i64 n, .int .i64 d]) := by
  refine Fn.of S_law19_frac mx [.i n, .i d] rfl rfl fun c _ => .alloc fun b0 => .ret rfl rfl
theorem labAt_ext {a b : List Int} (hl : a.length = b.length) (h : ∀ i, i < a.length → labAt a i = labAt b i) : a = b := by
  apply List.ext_getElem hl
  intro i h1 h2
  have := h i h1
  rwa [labAt_get h1, labAt_get h2] at this
theorem c_eqI (p q : Option Addr) (cp cq : Nat) (a b : List Int) (ha : a.length < 2 ^ 63) : RetP Tryd.prog n_slices_Equal___int_int_ [slv p a.length cp, slv q b.length cq] (fun R => Cells R p (intsL a) ∧ Cells R q (intsL b)) (.bool (decide (a = b))) := by
  refine Fn.of S_slices_Equal___int_int_ mx [.p p, .i a.length, .i cp, .p q, .i b.length, .i cq] rfl rfl fun c hp => .chk (by ((try simp only [evE, liE, lO, lU, snd]); (try simp only [cmE])); omega) (.chk (by ((try simp only [evE, liE, lO, lU, snd]); (try simp only [cmE])); omega) (.ite (fun h1 => .ret rfl ?_) (fun h1 => .chk (by ((try simp only [evE, liE, lO, lU, snd]); (try simp only [cmE])); omega) ?_))) <;> ((try simp only [evE, liE, lO, lU, snd] at h1); (try simp only [cmE] at h1))
  · rw [decide_eq_false (fun e => h1 (by rw [e]))]; rfl
  have hl : a.length = b.length := by omega
  refine .loop (fun n us _ => ∃ (e : Bool) (j : Nat), us = [.b e, .i j] ∧ n + j = a.length ∧ ∀ i, i < j → labAt a i = labAt b i) a.length ⟨false, 0, rfl, rfl, fun i h => by omega⟩ ?_
  rintro n _ m _ ⟨e, j, rfl, hn, hb⟩
  refine .env (by (try simp only [liE, lO, lU, snd, aN]); rfl) (.ite (fun h2 => ?_) (fun h2 => .ret rfl ?_)) <;> ((try simp only [evE, liE, lO, lU, snd] at h2); (try simp only [cmE] at h2))
  · have hj : j < a.length := by omega
    refine .elem1 (.int .i64 (labAt a j)) (intsL a) j a.length rfl rfl hj (fun g => hp.1.mono g.R) (intsL_at a j hj) (.env (by (try simp only [liE, lO, lU, snd, aN]); rfl) (.elem1 (.int .i64 (labAt b j)) (intsL b) j b.length rfl rfl (by omega) (fun g => hp.2.mono g.R) (intsL_at b j (by omega)) (.env (by (try simp only [liE, lO, lU, snd, aN]); rfl) (.ite (fun h3 => .ret rfl ?_) (fun h3 => .again rfl ⟨n - 1, by omega, e, j + 1, ?_, by omega, fun i hi => ?_⟩))))) <;> ((try simp only [evE, liE, lO, lU, snd] at h3); (try simp only [cmE] at h3))
    · rw [decide_eq_false (fun e => h3 (by rw [e]))]; rfl
    · (simp only [evE, liE, lO, lU, snd, Sh.uss, Sh.us, atAddr, map_add0, List.append_nil]); rw [add_i64 j (by omega)]
    · rcases Nat.lt_or_ge i j with h | h
      · exact hb i h
      · have : i = j := by omega
        subst this; exact h3
  · rw [decide_eq_true (labAt_ext hl fun i hi => hb i (by omega))]; rfl
def exL (w0 w1 w2 : Nat) : List FD := [⟨true, ⟨some ⟨w0, 0, none⟩, 2, [(2, 5), (5, 2)]⟩⟩, ⟨true, ⟨some ⟨w1, 0, none⟩, 2, [(3, 4), (5, 2)]⟩⟩, ⟨false, ⟨none, 0, []⟩⟩, ⟨true, ⟨some ⟨w2, 0, none⟩, 1, [(3, 4)]⟩⟩]
theorem c_example : FnM Tryd.prog n_law19_example [] (fun _ => True) fun v mq _ => ∃ w0 w1 w2 b7 b8, v = .tuple #[slv (some ⟨b7, 0, none⟩) 4 4, costs (some ⟨b8, 0, none⟩) 3 3 3] ∧ FormsAt mq.mv (some ⟨b7, 0, none⟩) (exL w0 w1 w2) ∧ CostsAt mq.mv (some ⟨b8, 0, none⟩) [2, 2, 2] := by
  refine FnM.of S_law19_example mx [] rfl rfl fun c _ => .alloc fun b0 => .alloc fun b1 => .alloc fun b2 => .alloc fun b3 => .alloc fun b4 => .alloc fun b5 => .alloc fun b6 => .alloc fun b7 => .alloc fun b8 => .retL rfl fun g => ⟨b4, b5, b6, b7, b8, rfl, ⟨?_, fun x hx => ?_⟩, ?_⟩
  · exact Mem.mv_cells (e := 50) ((blkMem_at (j := 7) g.nd rfl (show _ = some _ from rfl)).trans rfl)
  · simp only [exL, List.mem_cons, List.not_mem_nil, or_false] at hx
    rcases hx with rfl | rfl | rfl | rfl
    · exact Mem.mv_cells (e := 56) ((blkMem_at (j := 4) g.nd rfl (show _ = some _ from rfl)).trans rfl)
    · exact Mem.mv_cells (e := 56) ((blkMem_at (j := 5) g.nd rfl (show _ = some _ from rfl)).trans rfl)
    · intro i x hx; simp [wcells] at hx
    · exact Mem.mv_cells (e := 56) ((blkMem_at (j := 6) g.nd rfl (show _ = some _ from rfl)).trans rfl)
  · exact Mem.mv_cells (e := 2) ((blkMem_at (j := 8) g.nd rfl (show _ = some _ from rfl)).trans rfl)
theorem x_lab1 (w0 w1 w2 : Nat) : labelsE [2, 2, 2] 3 (exL w0 w1 w2) 1 3 = ([0, 0, -1, 0], 0) := by kernel_rfl
theorem x_lab2 (w0 w1 w2 : Nat) : labelsE [2, 2, 2] 3 (exL w0 w1 w2) 1 7 = ([0, 1, -1, 3], 0) := by kernel_rfl
theorem x_avg (w0 w1 w2 : Nat) : averageE [2, 2, 2] 3 (exL w0 w1 w2) 1 3 = ([0, 0, -1, 3], 0) := by kernel_rfl
theorem x_cmp : compareE [0, 0, 2, 2] [0, 0, 0, 3] = (((1, 2), (1, 3)), 0) := by kernel_rfl
theorem x_cub : cubedE [0, 0, 2, 2] [0, 0, 0, 3] = (((3, 4), (2, 3)), 0) := by kernel_rfl
theorem ex_ok (w0 w1 w2 : Nat) : ∀ f ∈ exL w0 w1 w2, Wok f.w.w := by
  intro f hf
  simp only [exL, List.mem_cons, List.not_mem_nil, or_false] at hf
  rcases hf with rfl | rfl | rfl | rfl <;> simp [Wok, Sok]
theorem tab_fresh (ρ : Env) (L : List Nat) (q : Option Addr) (n cap : Nat) (e : Int) : ((Sh.tup [.sl, .int .i64]).fresh ρ.length).1.den L (ρ ++ [.p q, .i n, .i cap, .i e]) = .tuple #[slv q n cap, .int .i64 e] := by
  have e1 := sl_at ρ L q n cap [.i e]
  have e2 := getElem_env ρ [.p q, .i n, .i cap, .i e] 3
  simp only [Sh.fresh, Sh.freshs, SV.den, SV.dens, IT.eval, Env.int] at e1 e2 ⊢
  rw [e1, show ρ.length + 1 + 2 = ρ.length + 3 by omega, e2]
  rfl
theorem c_works : RetP Tryd.prog n_law19_works [] (fun R => TabOk R) (.bool true) := by
  refine Fn.of S_law19_works mx [] rfl rfl fun c hT => ?_
  refine .callM c_example rfl rfl (fun _ => trivial) ?_
  rintro v me hfr ⟨w0, w1, w2, b7, b8, rfl, hF, hC⟩
  refine ⟨[.p (some ⟨b7, 0, none⟩), .i 4, .i 4, .p (some ⟨b8, 0, none⟩), .i 3, .i 3, .i 3], uOk_of rfl, rfl, ?_⟩
  rw [show Mem.emp.join me = me from rfl]
  have hs0 : ∀ b o, me b = some o → me b = some o := fun _ _ h => h
  have kL1 := c_Labels (some ⟨b7, 0, none⟩) 4 (exL w0 w1 w2) (some ⟨b8, 0, none⟩) 3 [2, 2, 2] 3 1 3 (by simp [exL]) (by simp [exL]) (ex_ok w0 w1 w2) (by decide) (by decide)
  have kL2 := c_Labels (some ⟨b7, 0, none⟩) 4 (exL w0 w1 w2) (some ⟨b8, 0, none⟩) 3 [2, 2, 2] 3 1 7 (by simp [exL]) (by simp [exL]) (ex_ok w0 w1 w2) (by decide) (by decide)
  have kA := c_Average (some ⟨b7, 0, none⟩) 4 (exL w0 w1 w2) (some ⟨b8, 0, none⟩) 3 [2, 2, 2] 3 1 3 (by simp [exL]) (by simp [exL]) (ex_ok w0 w1 w2) (by decide) (by decide)
  simp only [x_lab1] at kL1
  simp only [x_lab2] at kL2
  simp only [x_avg] at kA
  have hpre : ∀ {L : List Nat} {ρ : Env} {blks : List Blk} {m : Mem}, (∀ b o, me b = some o → m b = some o) → Go.Sy.Good c L m → FormsAt (vw c L ρ blks m) (some ⟨b7, 0, none⟩) (exL w0 w1 w2) ∧ CostsAt (vw c L ρ blks m) (some ⟨b8, 0, none⟩) [2, 2, 2] ∧ TabOk (vw c L ρ blks m) := fun hs g => ⟨hF.mono (Mem.mv_vw hs g), hC.mono (Mem.mv_vw hs g), hT.mono g.R⟩
  have hj : ∀ {m mq : Mem}, (∀ b o, me b = some o → m b = some o) → ∀ b o, me b = some o → (m.join mq) b = some o := fun hs b o hb => by
    have := hs b o hb
    rw [join_old (by rw [this]; simp), this]
  refine .alloc fun a0 => .env (by (try simp only [liE, lO, lU, snd, aN]); rfl) (.callV (c_frac 1 3) (fun _ => trivial) (.env (by (try simp only [liE, lO, lU, snd, aN]); rfl) (.callM kL1 rfl rfl (fun g => hpre hs0 g) ?_)))
  rintro v m1 hfr1 ⟨q1, k1, rfl, hr1⟩
  refine ⟨[.p q1, .i (4 : Nat), .i k1, .i 0], uOk_of rfl, (tab_fresh _ _ _ _ _ _).symm, ?_⟩
  have hs1 := hj (mq := m1) hs0
  have hr1 := hr1.joinR (m := me) fun b hb => (hfr1 b hb).1
  generalize me.join m1 = mm at *
  refine .env (by (try simp only [liE, lO, lU, snd, aN]); rfl) (.callV (c_frac 1 3) (fun _ => trivial) (.env (by (try simp only [liE, lO, lU, snd, aN]); rfl) (.callM kA rfl rfl (fun g => hpre hs1 g) ?_)))
  rintro v m2 hfr2 ⟨q2, k2, rfl, hr2⟩
  refine ⟨[.p q2, .i (4 : Nat), .i k2, .i 0], uOk_of rfl, (tab_fresh _ _ _ _ _ _).symm, ?_⟩
  have hs2 := hj (mq := m2) hs1
  have hr1 := hr1.joinL (mq := m2)
  have hr2 := hr2.joinR (m := mm) fun b hb => (hfr2 b hb).1
  clear hfr2 hfr1
  generalize mm.join m2 = mm at *
  refine .env (by (try simp only [liE, lO, lU, snd, aN]); rfl) (.callV (c_frac 1 7) (fun _ => trivial) (.env (by (try simp only [liE, lO, lU, snd, aN]); rfl) (.callM kL2 rfl rfl (fun g => hpre hs2 g) ?_)))
  rintro v m3 hfr3 ⟨q3, k3, rfl, hr3⟩
  refine ⟨[.p q3, .i (4 : Nat), .i k3, .i 0], uOk_of rfl, (tab_fresh _ _ _ _ _ _).symm, ?_⟩
  have hr1 := hr1.joinL (mq := m3)
  have hr2 := hr2.joinL (mq := m3)
  have hr3 := hr3.joinR (m := mm) fun b hb => (hfr3 b hb).1
  clear hfr3
  generalize mm.join m3 = mm at *
  refine .env (by (try simp only [liE, lO, lU, snd, aN]); rfl) (.alloc fun a1 => .alloc fun a2 => ?_)
  have kc := c_Compare (some ⟨a1, 0, none⟩) (some ⟨a2, 0, none⟩) 4 4 [0, 0, 2, 2] [0, 0, 0, 3] (by decide) (by decide)
  rw [x_cmp] at kc
  refine .callV kc (fun g => ⟨g.cells (j := 1) rfl rfl rfl, g.cells (j := 2) rfl rfl rfl⟩) (.env (by (try simp only [liE, lO, lU, snd, aN]); rfl) (.alloc fun a3 => .alloc fun a4 => .alloc fun a5 => .alloc fun a6 => ?_))
  have kd := c_Cubed (some ⟨a5, 0, none⟩) (some ⟨a6, 0, none⟩) 4 4 [0, 0, 2, 2] [0, 0, 0, 3] (by decide) (by decide)
  rw [x_cub] at kd
  refine .callV kd (fun g => ⟨g.cells (j := 5) rfl rfl rfl, g.cells (j := 6) rfl rfl rfl⟩) (.env (by (try simp only [liE, lO, lU, snd, aN]); rfl) (.alloc fun a7 => .alloc fun a8 => .alloc fun a9 => ?_))
  have e1 := c_eqI q1 (some ⟨a9, 0, none⟩) k1 4 [0, 0, -1, 0] [0, 0, -1, 0] (by decide)
  rw [decide_eq_true rfl] at e1
  refine .callV e1 (fun g => ⟨hr1.reads g, g.cells (j := 9) rfl rfl rfl⟩) (.env (by (try simp only [liE, lO, lU, snd, aN]); rfl) (.yes rfl (.alloc fun a10 => ?_)))
  have e2 := c_eqI q2 (some ⟨a10, 0, none⟩) k2 4 [0, 0, -1, 3] [0, 0, -1, 3] (by decide)
  rw [decide_eq_true rfl] at e2
  refine .callV e2 (fun g => ⟨hr2.reads g, g.cells (j := 10) rfl rfl rfl⟩) (.env (by (try simp only [liE, lO, lU, snd, aN]); rfl) (.yes rfl (.alloc fun a11 => ?_)))
  have e3 := c_eqI q3 (some ⟨a11, 0, none⟩) k3 4 [0, 1, -1, 3] [0, 1, -1, 3] (by decide)
  rw [decide_eq_true rfl] at e3
  refine .callV e3 (fun g => ⟨hr3.reads g, g.cells (j := 11) rfl rfl rfl⟩) (.env (by (try simp only [liE, lO, lU, snd, aN]); rfl) (.yes rfl ?_))
  refine .callV (c_frac 1 2) (fun _ => trivial) (.env (by (try simp only [liE, lO, lU, snd, aN]); rfl) (.yes rfl (.callV (c_frac 1 3) (fun _ => trivial) (.env (by (try simp only [liE, lO, lU, snd, aN]); rfl) (.yes rfl (.callV (c_frac 3 4) (fun _ => trivial) (.env (by (try simp only [liE, lO, lU, snd, aN]); rfl) (.yes rfl (.callV (c_frac 2 3) (fun _ => trivial) (.env (by (try simp only [liE, lO, lU, snd, aN]); rfl) (.ret rfl rfl)))))))))))
end Go.Proofs.YthabfpagilbplaaDoor
