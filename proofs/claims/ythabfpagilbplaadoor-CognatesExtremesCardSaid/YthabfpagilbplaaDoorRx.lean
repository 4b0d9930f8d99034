/- Chapter 19: judgements by one class, and by single elements, plainly. -/
import Derived.Test.YthabfpagilbplaaDoorRv
set_option linter.unusedSimpArgs false
set_option linter.unusedVariables false
namespace Go.Proofs.YthabfpagilbplaaDoor
open Go Go.Sy Go.RowKit
/-- n elements in classes of k. -/
def blkL (k n : Nat) : List Int := (List.range n).map fun i => ((i / k : Nat) : Int)
theorem blkL_succ (k n : Nat) : blkL k (n + 1) = blkL k n ++ [((n / k : Nat) : Int)] := by unfold blkL; rw [List.range_succ, List.map_append]; rfl
theorem blkL_len (k n : Nat) : (blkL k n).length = n := by simp [blkL]
theorem div_succ' {k n : Nat} (hk : 0 < k) : (n % k + 1 < k ∧ (n + 1) / k = n / k ∧ (n + 1) % k = n % k + 1) ∨ (n % k + 1 = k ∧ (n + 1) / k = n / k + 1 ∧ (n + 1) % k = 0) := by
  have h1 := Nat.div_add_mod n k
  have h2 := Nat.mod_lt n hk
  by_cases h : n % k + 1 < k
  · left
    refine ⟨h, ?_, ?_⟩
    · rw [Nat.div_eq_iff hk]
      constructor
      · rw [Nat.mul_comm]; omega
      · rw [Nat.mul_comm]; omega
    · have e : n + 1 = (n % k + 1) + k * (n / k) := by omega
      rw [e, Nat.add_mul_mod_self_left, Nat.mod_eq_of_lt h]
  · right
    have hk1 : n % k + 1 = k := by omega
    have e : n + 1 = k * (n / k + 1) := by rw [Nat.mul_add, Nat.mul_one]; omega
    exact ⟨hk1, by rw [e, Nat.mul_div_cancel_left _ hk], by rw [e, Nat.mul_mod_right]⟩
/-- How many of a class there are. -/
theorem cnt_blk {k : Nat} (hk : 0 < k) (n x : Nat) : cnt ((x : Nat) : Int) (blkL k n) = if x < n / k then k else if x = n / k then n % k else 0 := by
  induction n with
  | zero => simp [blkL, cnt]
  | succ n ih =>
    rw [blkL_succ, cnt_snoc, ih]
    have h2 := Nat.mod_lt n hk
    rcases div_succ' (n := n) hk with ⟨h, e1, e2⟩ | ⟨h, e1, e2⟩
    · rw [e1, e2]
      (repeat' split) <;> omega
    · rw [e1, e2]
      (repeat' split) <;> omega
def pairF (n k : Nat) : Nat := n / k * (k * (k - 1) / 2) + n % k * (n % k - 1) / 2
theorem half_succ (r : Nat) : (r + 1) * r / 2 = r * (r - 1) / 2 + r := by
  have e : (r + 1) * r = r * (r - 1) + r * 2 := by
    cases r with
    | zero => rfl
    | succ r => simp only [Nat.add_sub_cancel, Nat.add_mul, Nat.mul_add, Nat.one_mul, Nat.mul_one]; omega
  rw [e, Nat.add_mul_div_right _ _ (by decide : 0 < 2)]
theorem prC_blk {k : Nat} (hk : 0 < k) (n : Nat) : prC (blkL k n) = pairF n k := by
  induction n with
  | zero => simp [blkL, prC, pairF]
  | succ n ih =>
    rw [blkL_succ, prC_snoc, ih, cnt_blk hk, if_neg (by omega), if_pos rfl]
    unfold pairF
    rcases div_succ' (n := n) hk with ⟨h, e1, e2⟩ | ⟨h, e1, e2⟩
    · rw [e1, e2, Nat.add_sub_cancel, half_succ]; omega
    · rw [e1, e2, Nat.add_mul, Nat.one_mul]
      have e3 := half_succ (n % k)
      rw [h, show n % k = k - 1 by omega] at e3
      rw [show n % k = k - 1 by omega]
      simp only [Nat.zero_mul, Nat.zero_div]
      omega
theorem sum_cnt_pairs {α : Type} [DecidableEq α] (l : List α) : sumN (fun p => cnt p l) l = l.length + 2 * prC l := by
  induction l with
  | nil => rfl
  | cons x l ih =>
    rw [sumN_cons, prC, List.length_cons, cnt_cons, if_pos rfl]
    have e : sumN (fun p => cnt p (x :: l)) l = sumN (fun p => cnt p l) l + sumN (fun p => if p = x then 1 else 0) l := by
      rw [← sumN_add]
      exact sumN_congr fun p _ => cnt_cons p x l
    have e2 : sumN (fun p => if p = x then 1 else 0) l = cnt x l := by
      unfold cnt
      rw [List.count_eq_countP, List.countP_eq_length_filter]
      clear ih e
      induction l with
      | nil => rfl
      | cons y l ih =>
        rw [sumN_cons, ih, List.filter_cons]
        by_cases h : y = x
        · rw [if_pos h, if_pos (by simp [h])]; simp; omega
        · rw [if_neg h, if_neg (by simpa using h)]; omega
    rw [e, e2, ih]; omega
/-- What the share of a judgement by elements is. -/
theorem cubP_val (π : Int × Int → Int) {ps : List (Int × Int)} (h : ps.length ≤ 256) (h0 : ps.length ≠ 0) : 0 < (cubP π ps).2 ∧ (cubP π ps).1 * ((lam π ps * ps.length : Nat) : Int) = ((vAll π ps : Nat) : Int) * (cubP π ps).2 := by
  obtain ⟨l1, l2, l3⟩ := lam_ok π ps h
  have hv : vAll π ps ≤ ps.length * lam π ps := by
    unfold vAll
    refine Nat.le_trans (sumN_le (h := fun _ => lam π ps) fun p hp => part_le π h hp) ?_
    rw [sumN_const]; exact Nat.le_refl _
  unfold cubP
  rw [if_neg h0, lowest_nat]
  have hfr := FrOk.le (fr_of (M := lam π ps) (V := vAll π ps) (n := vAll π ps) (d := lam π ps) l1 (Nat.dvd_refl _) (by rw [Nat.div_self l1, Nat.mul_one])) l1 hv
  have hpos : 0 < lam π ps / Nat.gcd (vAll π ps) (lam π ps) := Nat.div_pos (Nat.le_of_dvd l1 (Nat.gcd_dvd_right _ _)) (Nat.gcd_pos_of_pos_right _ l1)
  dsimp only
  have hle : ((vAll π ps / Nat.gcd (vAll π ps) (lam π ps) : Nat) : Int) ≤ ((lam π ps / Nat.gcd (vAll π ps) (lam π ps) : Nat) : Int) * (ps.length : Int) := by
    rw [← Int.natCast_mul, Nat.mul_comm]
    exact Int.ofNat_le.2 hfr
  have hp2 : (0 : Int) < ((lam π ps / Nat.gcd (vAll π ps) (lam π ps) : Nat) : Int) * (ps.length : Int) := by
    rw [← Int.natCast_mul]
    exact Int.ofNat_lt.2 (Nat.mul_pos hpos (by omega))
  have hlo := lowest_ok (Int.natCast_nonneg _) hle hp2
  obtain ⟨g1, hg1⟩ := Nat.gcd_dvd_left (vAll π ps) (lam π ps)
  obtain ⟨g2, hg2⟩ := Nat.gcd_dvd_right (vAll π ps) (lam π ps)
  have hgp : 0 < Nat.gcd (vAll π ps) (lam π ps) := Nat.gcd_pos_of_pos_right _ l1
  generalize Nat.gcd (vAll π ps) (lam π ps) = G at *
  have e1 : vAll π ps / G = g1 := by rw [hg1, Nat.mul_div_cancel_left _ hgp]
  have e2 : lam π ps / G = g2 := by rw [hg2, Nat.mul_div_cancel_left _ hgp]
  rw [e1, e2] at hlo ⊢
  refine ⟨by omega, ?_⟩
  generalize lowest (g1 : Int) ((g2 : Int) * (ps.length : Int)) = z at *
  have h4 := hlo.2.2.2.1
  have hv2 : ((vAll π ps : Nat) : Int) = ((G : Nat) : Int) * g1 := by rw [← Int.natCast_mul, ← hg1]
  have hl2 : ((lam π ps * ps.length : Nat) : Int) = ((G : Nat) : Int) * ((g2 : Int) * (ps.length : Int)) := by
    rw [Int.natCast_mul, ← Int.mul_assoc, ← Int.natCast_mul G, ← hg2]
  rw [hv2, hl2, ← Int.mul_assoc, Int.mul_comm z.1, Int.mul_assoc, ← h4, Int.mul_assoc]
/-- All in one class. -/
theorem cub_one (π : Int × Int → Int) {ps : List (Int × Int)} (h : ps.length ≤ 256) (h1 : ∀ p ∈ ps, cnt p ps = ownN π ps p) : cubP π ps = (1, 1) := by
  by_cases h0 : ps.length = 0
  · unfold cubP; rw [if_pos h0]
  · obtain ⟨l1, l2, l3⟩ := lam_ok π ps h
    have e3 : vAll π ps = ps.length * lam π ps := by
      unfold vAll
      rw [sumN_congr (h := fun _ => lam π ps) fun p hp => ?_, sumN_const]
      rw [h1 p hp]
      exact Nat.mul_div_cancel' (l3 p hp)
    unfold cubP
    rw [if_neg h0, e3, lowest_mul l1]
    show lowest (ps.length : Int) (1 * (ps.length : Int)) = _
    rw [Int.one_mul, lowest_self (by omega)]
/-! The two judgements. -/
def ownL (n : Nat) : List Int := (List.range n).map fun (i : Nat) => (i : Int)
theorem ownL_len (n : Nat) : (ownL n).length = n := by simp [ownL]
theorem nodup_map {α β : Type} {f : α → β} (hf : ∀ x y, f x = f y → x = y) {l : List α} (h : l.Nodup) : (l.map f).Nodup := by
  unfold List.Nodup
  rw [List.pairwise_map]
  exact h.imp fun h e => h (hf _ _ e)
theorem cnt_nodup {α : Type} [DecidableEq α] {x : α} {l : List α} (h : l.Nodup) (hx : x ∈ l) : cnt x l = 1 := by
  induction l with
  | nil => cases hx
  | cons y l ih =>
    have hn := List.nodup_cons.1 h
    rw [cnt_cons]
    rcases List.mem_cons.1 hx with rfl | hx
    · unfold cnt; rw [if_pos rfl, List.count_eq_zero.2 hn.1]
    · rw [if_neg (fun (e : x = y) => hn.1 (e ▸ hx)), ih hn.2 hx]
theorem blk_pos (k n : Nat) : ∀ x ∈ blkL k n, 0 ≤ x := fun x hx => by
  obtain ⟨i, _, rfl⟩ := List.mem_map.1 hx; exact Int.natCast_nonneg _
theorem blk_low (k n : Nat) : ∀ x ∈ blkL k n, -1 ≤ x := fun x hx => by
  have := blk_pos k n x hx; omega
theorem own_low (n : Nat) : ∀ x ∈ ownL n, -1 ≤ x := fun x hx => by
  obtain ⟨i, _, rfl⟩ := List.mem_map.1 hx; omega
theorem valV_zip (a b : List Int) (hab : b.length = a.length) (ha : ∀ x ∈ a, 0 ≤ x) (hb : ∀ x ∈ b, 0 ≤ x) : valV a b a.length = a.zip b := by
  unfold valV
  rw [List.take_of_length_le (by simp; omega), List.filter_eq_self.2 fun p hp => ?_]
  have := List.of_mem_zip hp
  have h1 := ha _ this.1
  have h2 := hb _ this.2
  simp [okV, h1, h2]
theorem valV_one (k n : Nat) : valV (blkL k n) (List.replicate n 3) n = (blkL k n).map fun x => (x, 3) := by
  have h := valV_zip (blkL k n) (List.replicate n 3) (by simp [blkL_len]) (blk_pos k n) (fun x hx => by rw [List.eq_of_mem_replicate hx]; decide)
  rw [blkL_len] at h
  rw [h]
  apply List.ext_getElem
  · simp [blkL_len]
  · intro i h1 h2
    simp
theorem valV_own (k n : Nat) : valV (blkL k n) (ownL n) n = (List.range n).map fun i => (((i / k : Nat) : Int), (i : Int)) := by
  have h := valV_zip (blkL k n) (ownL n) (by simp [blkL_len, ownL_len]) (blk_pos k n) (fun x hx => by obtain ⟨i, _, rfl⟩ := List.mem_map.1 hx; omega)
  rw [blkL_len] at h
  rw [h]
  apply List.ext_getElem
  · simp [blkL_len, ownL_len]
  · intro i h1 h2
    simp [blkL, ownL]
theorem prC_nodup {α : Type} [DecidableEq α] {l : List α} (h : l.Nodup) : prC l = 0 := by
  induction l with
  | nil => rfl
  | cons x l ih =>
    have := List.nodup_cons.1 h
    rw [prC, ih this.2]
    unfold cnt
    rw [List.count_eq_zero.2 this.1]
theorem own_nodup (n : Nat) : (ownL n).Nodup := by
  unfold ownL
  exact nodup_map (fun x y e => by omega) List.nodup_range
theorem prC_rep (n : Nat) (v : Int) : prC (List.replicate n v) = n * (n - 1) / 2 := by
  induction n with
  | zero => rfl
  | succ n ih =>
    rw [List.replicate_succ, prC, ih, Nat.add_sub_cancel, half_succ]
    unfold cnt
    rw [List.count_replicate_self]; omega
/-- Against one class. -/
theorem cmp_one (k n : Nat) (hk : 0 < k) (hn : n ≤ 256) : compareE (blkL k n) (List.replicate n 3) = ((shareW (pairF n k : Nat) (pairF n k : Nat), shareW (pairF n k : Nat) (n * (n - 1) / 2 : Nat)), 0) := by
  rw [compareE_ok (wrong_zero (by rw [blkL_len]; exact hn) (by simp [blkL_len]) (blk_low k n) fun x hx => by rw [List.eq_of_mem_replicate hx]; decide), blkL_len, valV_one]
  have e1 : ((blkL k n).map fun x => (x, (3 : Int))).map (·.1) = blkL k n := by rw [List.map_map]; exact List.map_id _
  have e2 : ((blkL k n).map fun x => (x, (3 : Int))).map (·.2) = List.replicate n 3 := by
    rw [List.map_map]
    apply List.ext_getElem
    · simp [blkL_len]
    · intro i h1 h2; simp
  rw [e1, e2, prC_map (fun x : Int => (x, (3 : Int))) fun x y h => (Prod.mk.inj h).1, prC_blk hk, prC_rep]
theorem cmp_own (k n : Nat) (hk : 0 < k) (hn : n ≤ 256) : compareE (blkL k n) (ownL n) = ((shareW (0 : Nat) (pairF n k : Nat), (1, 1)), 0) := by
  rw [compareE_ok (wrong_zero (by rw [blkL_len]; exact hn) (by simp [blkL_len, ownL_len]) (blk_low k n) (own_low n)), blkL_len, valV_own]
  have e1 : ((List.range n).map fun i => ((((i / k : Nat) : Int), (i : Int)) : Int × Int)).map (·.1) = blkL k n := by rw [List.map_map]; rfl
  have e2 : ((List.range n).map fun i => ((((i / k : Nat) : Int), (i : Int)) : Int × Int)).map (·.2) = ownL n := by rw [List.map_map]; rfl
  rw [e1, e2, prC_nodup (own_nodup n), prC_blk hk, prC_nodup]
  · rfl
  · exact nodup_map (fun x y e => by have := (Prod.mk.inj e).2; omega) List.nodup_range
theorem cub_fst_one (k n : Nat) (hn : n ≤ 256) : cubP (fun x => x.1) ((blkL k n).map fun x => (x, (3 : Int))) = (1, 1) := by
  refine cub_one _ (by simp [blkL_len]; exact hn) fun p hp => ?_
  obtain ⟨x, _, rfl⟩ := List.mem_map.1 hp
  have e1 : ((blkL k n).map fun x => (x, (3 : Int))).map (·.1) = blkL k n := by rw [List.map_map]; exact List.map_id _
  unfold ownN
  rw [e1, cnt_map (fun x : Int => (x, (3 : Int))) fun x y h => (Prod.mk.inj h).1]
/-- All elements, as squares of the classes. -/
def sqF (n k : Nat) : Nat := n / k * k * k + n % k * (n % k)
theorem two_half (r : Nat) : 2 * (r * (r - 1) / 2) = r * (r - 1) := by
  induction r with
  | zero => rfl
  | succ r ih =>
    rw [Nat.add_sub_cancel, half_succ, Nat.mul_add, ih]
    cases r with
    | zero => rfl
    | succ r => simp only [Nat.add_sub_cancel, Nat.add_mul, Nat.mul_add, Nat.one_mul, Nat.mul_one]; omega
theorem sq_pairs (n k : Nat) (hk : 0 < k) : n + 2 * pairF n k = sqF n k := by
  unfold pairF sqF
  have h1 := Nat.div_add_mod n k
  have e1 := two_half k
  have e2 := two_half (n % k)
  have f : ∀ r : Nat, r * (r - 1) + r = r * r := fun r => by
    cases r with
    | zero => rfl
    | succ r => rw [Nat.add_sub_cancel, ← Nat.mul_succ]
  have f1 := f k
  have f2 := f (n % k)
  have e3 : 2 * (n / k * (k * (k - 1) / 2)) = n / k * (k * (k - 1)) := by rw [Nat.mul_left_comm, e1]
  have e4 : n / k * (k * (k - 1)) + n / k * k = n / k * k * k := by rw [← Nat.mul_add, f1, Nat.mul_assoc]
  have e5 : k * (n / k) = n / k * k := Nat.mul_comm _ _
  omega
theorem cub_snd_one (k n : Nat) (hk : 0 < k) (hn : n ≤ 256) (hn0 : 0 < n) : 0 < (cubP (fun x => x.2) ((blkL k n).map fun x => (x, (3 : Int)))).2 ∧ (cubP (fun x => x.2) ((blkL k n).map fun x => (x, (3 : Int)))).1 * ((n * n : Nat) : Int) = ((sqF n k : Nat) : Int) * (cubP (fun x => x.2) ((blkL k n).map fun x => (x, (3 : Int)))).2 := by
  have hlen : ((blkL k n).map fun x => (x, (3 : Int))).length = n := by simp [blkL_len]
  obtain ⟨h1, h2⟩ := cubP_val (fun x => x.2) (ps := (blkL k n).map fun x => (x, (3 : Int))) (by omega) (by omega)
  obtain ⟨l1, _, l3⟩ := lam_ok (fun x => x.2) ((blkL k n).map fun x => (x, (3 : Int))) (by omega)
  have e2 : ((blkL k n).map fun x => (x, (3 : Int))).map (fun x => x.2) = List.replicate n 3 := by
    rw [List.map_map]
    apply List.ext_getElem
    · simp [blkL_len]
    · intro i h1 h2; simp
  have hown : ∀ p ∈ (blkL k n).map (fun x => (x, (3 : Int))), ownN (fun x => x.2) ((blkL k n).map fun x => (x, (3 : Int))) p = n := fun p hp => by
    obtain ⟨x, _, rfl⟩ := List.mem_map.1 hp
    unfold ownN
    rw [e2]
    show cnt 3 _ = n
    unfold cnt
    rw [List.count_replicate_self]
  have hV : vAll (fun x => x.2) ((blkL k n).map fun x => (x, (3 : Int))) = sqF n k * (lam (fun x => x.2) ((blkL k n).map fun x => (x, (3 : Int))) / n) := by
    unfold vAll
    rw [sumN_congr (h := fun p => cnt p ((blkL k n).map fun x => (x, (3 : Int))) * (lam (fun x => x.2) ((blkL k n).map fun x => (x, (3 : Int))) / n)) fun p hp => by rw [hown p hp], sumN_mul, sum_cnt_pairs, hlen, prC_map (fun x : Int => (x, (3 : Int))) fun x y h => (Prod.mk.inj h).1, prC_blk hk, sq_pairs n k hk]
  obtain ⟨p0, hp0⟩ : ∃ p, p ∈ (blkL k n).map (fun x => (x, (3 : Int))) := List.exists_mem_of_length_pos (by omega)
  have hd := l3 p0 hp0
  rw [hown p0 hp0] at hd
  obtain ⟨g, hg⟩ := hd
  rw [hlen] at h2
  generalize lam (fun x => x.2) ((blkL k n).map fun x => (x, (3 : Int))) = M at *
  have e3 : M / n = g := by rw [hg, Nat.mul_div_cancel_left _ hn0]
  rw [e3] at hV
  have hg0 : 0 < g := by
    rcases Nat.eq_zero_or_pos g with h | h
    · rw [h, Nat.mul_zero] at hg; omega
    · exact h
  refine ⟨h1, ?_⟩
  rw [hV] at h2
  generalize cubP (fun x => x.2) ((blkL k n).map fun x => (x, (3 : Int))) = z at *
  have h3 : ((M * n : Nat) : Int) = ((n * n : Nat) : Int) * (g : Int) := by
    rw [hg, Nat.mul_assoc, Nat.mul_comm g n, ← Nat.mul_assoc, Int.natCast_mul]
  rw [h3, Int.natCast_mul (sqF n k), ← Int.mul_assoc] at h2
  refine Int.eq_of_mul_eq_mul_right (show (g : Int) ≠ 0 by omega) ?_
  rw [h2, Int.mul_right_comm]
def clsF (n k : Nat) : Nat := n / k + if 0 < n % k then 1 else 0
theorem cub_fst_own (k n : Nat) (hk : 0 < k) (hn : n ≤ 256) (hn0 : 0 < n) : 0 < (cubP (fun x => x.1) ((List.range n).map fun i => ((((i / k : Nat) : Int), (i : Int)) : Int × Int))).2 ∧
    (cubP (fun x => x.1) ((List.range n).map fun i => ((((i / k : Nat) : Int), (i : Int)) : Int × Int))).1 * (n : Int) = ((clsF n k : Nat) : Int) * (cubP (fun x => x.1) ((List.range n).map fun i => ((((i / k : Nat) : Int), (i : Int)) : Int × Int))).2 := by
  have e1 : ((List.range n).map fun i => ((((i / k : Nat) : Int), (i : Int)) : Int × Int)).map (fun x => x.1) = blkL k n := by rw [List.map_map]; rfl
  have hnd : ((List.range n).map fun i => ((((i / k : Nat) : Int), (i : Int)) : Int × Int)).Nodup := nodup_map (fun x y e => by have := (Prod.mk.inj e).2; omega) List.nodup_range
  have hlen : ((List.range n).map fun i => ((((i / k : Nat) : Int), (i : Int)) : Int × Int)).length = n := by simp
  obtain ⟨h1, h2⟩ := cubP_val (fun x => x.1) (ps := (List.range n).map fun i => ((((i / k : Nat) : Int), (i : Int)) : Int × Int)) (by omega) (by omega)
  obtain ⟨l1, _, l3⟩ := lam_ok (fun x => x.1) ((List.range n).map fun i => ((((i / k : Nat) : Int), (i : Int)) : Int × Int)) (by omega)
  generalize hps : ((List.range n).map fun i => ((((i / k : Nat) : Int), (i : Int)) : Int × Int)) = ps at *
  have hc1 : ∀ p ∈ ps, cnt p ps = 1 := fun p hp => cnt_nodup hnd hp
  have hdiv : ∀ x ∈ blkL k n, cnt x (blkL k n) ∣ lam (fun x => x.1) ps := fun x hx => by
    rw [← e1] at hx ⊢
    obtain ⟨p, hp, rfl⟩ := List.mem_map.1 hx
    exact l3 p hp
  have hV : vAll (fun x => x.1) ps = clsF n k * lam (fun x => x.1) ps := by
    unfold vAll
    rw [sumN_congr (h := fun p => lam (fun x => x.1) ps / cnt p.1 (blkL k n)) fun p hp => by rw [hc1 p hp, Nat.one_mul]; unfold ownN; rw [e1]]
    have e4 : sumN (fun p : Int × Int => lam (fun x => x.1) ps / cnt p.1 (blkL k n)) ps = sumN (fun x => lam (fun x => x.1) ps / cnt x (blkL k n)) (blkL k n) := by
      unfold sumN
      rw [← e1, List.map_map]; rfl
    have hmem : ∀ x ∈ blkL k n, x ∈ ownL (clsF n k) := fun x hx => by
      obtain ⟨i, hi, rfl⟩ := List.mem_map.1 hx
      have hi := List.mem_range.1 hi
      refine List.mem_map.2 ⟨i / k, List.mem_range.2 ?_, rfl⟩
      have h3 : i / k ≤ n / k := Nat.div_le_div_right (by omega)
      unfold clsF
      split
      · omega
      · rename_i hz
        have h4 := Nat.div_add_mod n k
        rw [Nat.div_lt_iff_lt_mul hk, Nat.add_zero, Nat.mul_comm]
        omega
    rw [e4, ← sum_cnt (own_nodup (clsF n k)) _ (blkL k n) hmem, sumN_congr (h := fun _ => lam (fun x => x.1) ps) fun x hx => ?_, sumN_const, ownL_len]
    obtain ⟨t, ht, rfl⟩ := List.mem_map.1 hx
    have ht := List.mem_range.1 ht
    have hct := cnt_blk hk n t
    have hpos : 0 < cnt ((t : Nat) : Int) (blkL k n) := by
      rw [hct]
      unfold clsF at ht
      split at ht <;> (repeat' split) <;> omega
    have hm : ((t : Nat) : Int) ∈ blkL k n := by unfold cnt at hpos; exact List.count_pos_iff.1 hpos
    exact Nat.div_mul_cancel (hdiv _ hm)
  rw [hlen, hV] at h2
  refine ⟨h1, ?_⟩
  generalize lam (fun x => x.1) ps = M at *
  generalize cubP (fun x => x.1) ps = z at *
  rw [Int.natCast_mul, Int.natCast_mul, Int.mul_comm (M : Int), ← Int.mul_assoc] at h2
  refine Int.eq_of_mul_eq_mul_right (show (M : Int) ≠ 0 by omega) ?_
  rw [h2, Int.mul_right_comm]
theorem cub_snd_own (k n : Nat) (hn : n ≤ 256) : cubP (fun x => x.2) ((List.range n).map fun i => ((((i / k : Nat) : Int), (i : Int)) : Int × Int)) = (1, 1) := by
  have hnd : ((List.range n).map fun i => ((((i / k : Nat) : Int), (i : Int)) : Int × Int)).Nodup := nodup_map (fun x y e => by have := (Prod.mk.inj e).2; omega) List.nodup_range
  have e2 : ((List.range n).map fun i => ((((i / k : Nat) : Int), (i : Int)) : Int × Int)).map (fun x => x.2) = ownL n := by rw [List.map_map]; rfl
  refine cub_one _ (by simp; exact hn) fun p hp => ?_
  unfold ownN
  rw [e2]
  rw [cnt_nodup hnd hp, cnt_nodup (own_nodup n)]
  rw [← e2]
  exact List.mem_map_of_mem hp
end Go.Proofs.YthabfpagilbplaaDoor
