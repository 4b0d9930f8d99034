/- Chapter 19: the law Extremes. -/
import Derived.Test.YthabfpagilbplaaDoorRx
import Derived.Test.YthabfpagilbplaaDoorTcExtremes
set_option linter.unusedSimpArgs false
set_option linter.unusedVariables false
namespace Go.Proofs.YthabfpagilbplaaDoor
open Go Go.Sy Go.RowKit
theorem c_sameF (N D n d : Int) (h0 : d = 0 → N = 1 ∧ D = 1) (h1 : d ≠ 0 → 0 < D ∧ N * d = n * D) : Ret Tryd.prog n_law19_CognatesExtremes_1 [.agg #[.int .i64 N, .int .i64 D], .int .i64 n, .int .i64 d] (.bool true) := by
  refine Fn.of S_law19_CognatesExtremes_1 mx [.i N, .i D, .i n, .i d] rfl rfl fun c hp => .alloc fun b0 => .ite (fun h => .callV (c_frac 1 1) (fun _ => trivial) (.env (by (try simp only [liE, letsOf, letU, snd, List.append_nil]); rfl) (.ret rfl ?_))) (fun h => .ret rfl ?_) <;> ((try simp only [evE, liE, letsOf, letU, snd] at h); (try simp only [cmE] at h))
  · obtain ⟨rfl, rfl⟩ := h0 h
    rfl
  · obtain ⟨h2, h3⟩ := h1 h
    show Value.bool (bif decide (D > 0) then ((IntKind.i64.wrap (N * d)) == (IntKind.i64.wrap (n * D))) else false) = _
    rw [decide_eq_true (by omega), h3]
    simp
theorem a_half {x : Nat} (hx : x ≤ 256) : ar .quo .i64 (ar .mul .i64 (x : Int) (ar .sub .i64 (x : Int) 1)) 2 = ((x * (x - 1) / 2 : Nat) : Int) := by
  cases x with
  | zero => rfl
  | succ x =>
    rw [show ar .sub .i64 ((x + 1 : Nat) : Int) 1 = (x : Int) by rw [show ar .sub .i64 ((x + 1 : Nat) : Int) 1 = ((x + 1 : Nat) : Int) - 1 from wrap_i64 (by omega) (by omega)]; omega]
    have hb : (x + 1) * x ≤ 256 * 256 := Nat.mul_le_mul hx (by omega)
    rw [mulN (by omega), Nat.add_sub_cancel]
    show IntKind.i64.wrap (((((x + 1) * x : Nat) : Int)).tdiv 2) = _
    rw [show ((((x + 1) * x : Nat) : Int)).tdiv 2 = (((x + 1) * x / 2 : Nat) : Int) from rfl]
    exact wrap_i64 (by omega) (by omega)
theorem a_quo {a b : Nat} (ha : a ≤ 256) : ar .quo .i64 (a : Int) (b : Int) = ((a / b : Nat) : Int) := by
  show IntKind.i64.wrap ((a / b : Nat) : Int) = _
  have := Nat.div_le_self a b
  have := Int.natCast_nonneg (a / b)
  exact wrap_i64 (by omega) (by omega)
theorem a_rem {a b : Nat} : ar .rem .i64 (a : Int) (b : Int) = ((a % b : Nat) : Int) := rfl
theorem l_CognatesExtremes (n k : Int) (hn : 0 ≤ n ∧ n < 256) (hk : 0 ≤ k ∧ k < 256) : RetP Tryd.prog n_law19_CognatesExtremes [.int .u8 n, .int .u8 k] (fun R => TabOk R) (.bool true) := by
  obtain ⟨n', rfl⟩ := Int.eq_ofNat_of_zero_le hn.1
  obtain ⟨k', rfl⟩ := Int.eq_ofNat_of_zero_le hk.1
  have eN : ar .add .i64 1 (IntKind.i64.wrap (n' : Int)) = ((n' + 1 : Nat) : Int) := by
    rw [show IntKind.i64.wrap (n' : Int) = (n' : Int) from wrap_i64 (by omega) (by omega), show ar .add .i64 1 (n' : Int) = 1 + (n' : Int) from wrap_i64 (by omega) (by omega)]; omega
  have eK : ar .add .i64 1 (IntKind.i64.wrap (k' : Int)) = ((k' + 1 : Nat) : Int) := by
    rw [show IntKind.i64.wrap (k' : Int) = (k' : Int) from wrap_i64 (by omega) (by omega), show ar .add .i64 1 (k' : Int) = 1 + (k' : Int) from wrap_i64 (by omega) (by omega)]; omega
  generalize hNN : n' + 1 = N at eN
  generalize hKK : k' + 1 = K at eK
  have hN0 : 0 < N := by omega
  have hN : N ≤ 256 := by omega
  have hK0 : 0 < K := by omega
  have hK : K ≤ 256 := by omega
  have hdN : N / K ≤ 256 := Nat.le_trans (Nat.div_le_self N K) hN
  have hmN : N % K < K := Nat.mod_lt _ hK0
  have hh1 : K * (K - 1) / 2 ≤ 65536 := by
    have : K * (K - 1) ≤ 256 * 256 := Nat.mul_le_mul hK (by omega)
    omega
  have hh2 : N % K * (N % K - 1) / 2 ≤ 65536 := by
    have : N % K * (N % K - 1) ≤ 256 * 256 := Nat.mul_le_mul (by omega) (by omega)
    omega
  have hh3 : N / K * (K * (K - 1) / 2) ≤ 256 * 65536 := Nat.mul_le_mul hdN hh1
  have ep : ar .add .i64 (ar .mul .i64 (ar .quo .i64 (N : Int) (K : Int)) (ar .quo .i64 (ar .mul .i64 (K : Int) (ar .sub .i64 (K : Int) 1)) 2)) (ar .quo .i64 (ar .mul .i64 (ar .rem .i64 (N : Int) (K : Int)) (ar .sub .i64 (ar .rem .i64 (N : Int) (K : Int)) 1)) 2) = ((pairF N K : Nat) : Int) := by
    rw [a_quo hN, a_half hK, a_rem, a_half (by omega), mulN (by omega), addN (by omega)]; rfl
  have ea : ar .quo .i64 (ar .mul .i64 (N : Int) (ar .sub .i64 (N : Int) 1)) 2 = ((N * (N - 1) / 2 : Nat) : Int) := a_half hN
  have es : ar .add .i64 (ar .mul .i64 (ar .mul .i64 (ar .quo .i64 (N : Int) (K : Int)) (K : Int)) (K : Int)) (ar .mul .i64 (ar .rem .i64 (N : Int) (K : Int)) (ar .rem .i64 (N : Int) (K : Int))) = ((sqF N K : Nat) : Int) := by
    have q1 : N / K * K ≤ 256 * 256 := Nat.mul_le_mul hdN hK
    have q2 : N / K * K * K ≤ 256 * 256 * 256 := Nat.mul_le_mul q1 hK
    have q3 : N % K * (N % K) ≤ 256 * 256 := Nat.mul_le_mul (by omega) (by omega)
    rw [a_quo hN, a_rem, mulN (by omega), mulN (by omega), mulN (by omega), addN (by omega)]; rfl
  have en : ar .mul .i64 (N : Int) (N : Int) = ((N * N : Nat) : Int) := by
    have q1 : N * N ≤ 256 * 256 := Nat.mul_le_mul hN hN
    exact mulN (by omega)
  refine Fn.of S_law19_CognatesExtremes mx [.i n', .i k'] rfl rfl fun c hp => ?_
  refine .loop (fun q us m => ∃ (i c1 c2 c3 : Nat) (q1 q2 q3 : Option Addr), i ≤ N ∧ us = [.p q1, .i i, .i c1, .p q2, .i i, .i c2, .p q3, .i i, .i c3, .i i] ∧ q = N - i ∧ Row m 3 1 q1 c1 i (intsL (blkL K i)) ∧ Row m 3 1 q2 c2 i (intsL (List.replicate i 3)) ∧ Row m 3 1 q3 c3 i (intsL (ownL i)) ∧
    (∀ b, q1 = some ⟨b, 0, none⟩ → q2 ≠ some ⟨b, 0, none⟩ ∧ q3 ≠ some ⟨b, 0, none⟩) ∧ (∀ b, q2 = some ⟨b, 0, none⟩ → q3 ≠ some ⟨b, 0, none⟩)) N ⟨0, 0, 0, 0, none, none, none, Nat.zero_le _, rfl, rfl, .nil _ _ _, .nil _ _ _, .nil _ _ _, fun b h => by (cases h), fun b h => by (cases h)⟩ ?_
  rintro q us m _ ⟨i, c1, c2, c3, q1, q2, q3, hi, rfl, rfl, hr1, hr2, hr3, hs1, hs2⟩
  have keepS : ∀ {m m' : Mem} {q q' : Option Addr} {c c' n n' kx : Nat} {xs xs' : List Value}, Row m 3 1 q c n xs → Row m 3 1 q' c' n' xs' → (∀ b, q = some ⟨b, 0, none⟩ → q' ≠ some ⟨b, 0, none⟩) → (∀ b, ((∃ o, q' = some ⟨b, o, none⟩) → c' < n' + kx) → m b ≠ none → m' b = m b) → Row m' 3 1 q c n xs := fun h h' hne hk => h.keep fun b hb hb' => hk b (fun ⟨o, ho⟩ => by
    have := row_at0 h' ho
    subst this
    exact absurd ho (hne b hb)) hb'
  have sepN : ∀ {m : Mem} {q q' q2 : Option Addr} {c n : Nat} {xs : List Value}, Row m 3 1 q2 c n xs → (∀ b, q2 = some ⟨b, 0, none⟩ → q ≠ some ⟨b, 0, none⟩) → (q' = q ∨ ∃ g, q' = some ⟨g, 0, none⟩ ∧ m g = none) → ∀ b, q2 = some ⟨b, 0, none⟩ → q' ≠ some ⟨b, 0, none⟩ := fun h hs hq b hb e => by
    rcases hq with h2 | ⟨g, h2, h3⟩
    · exact hs b hb (h2 ▸ e)
    · rw [h2] at e; cases e; exact row_in h hb h3
  have sw : ∀ {q q' : Option Addr}, (∀ b, q = some ⟨b, 0, none⟩ → q' ≠ some ⟨b, 0, none⟩) → ∀ b, q' = some ⟨b, 0, none⟩ → q ≠ some ⟨b, 0, none⟩ := fun h b h1 h2 => h b h2 h1
  refine .env (by (try simp only [liE, letsOf, letU, snd, List.append_nil]); rfl) (.ite (fun h1 => ?_) (fun h1 => ?_))
  · replace h1 : decide ((i : Int) < ar .add .i64 1 (IntKind.i64.wrap (n' : Int))) = true := h1
    rw [eN] at h1
    have h1 := of_decide_eq_true h1
    have hi : i < N := by omega
    refine .chk ?_ (.alloc fun b0 => .append (q := q1) (cap := c1) (n := i) (qx := some ⟨b0, 0, none⟩) (kx := 1) (capx := 1) (news := [.int .i64 ((i / K : Nat) : Int)]) elI hr1 (fun g => g.cells (j := 0) rfl rfl ?_) rfl (by simp [Value.oneCell']) (fun h => by cases h) (by simp [maxLen]; omega) (by omega) (fun q1' c1' m1 hr1' hk1 hq1 => ?_))
    · show ((ar .add .i64 1 (IntKind.i64.wrap (k' : Int))) != 0) = true
      rw [eK]; exact bne_iff_ne.2 (by omega)
    · show [Value.int .i64 (ar .quo .i64 (i : Int) (ar .add .i64 1 (IntKind.i64.wrap (k' : Int))))] = _
      rw [eK, a_quo (by omega)]
    have hr2a := keepS hr2 hr1 (sw fun b hb => (hs1 b hb).1) hk1
    have hr3a := keepS hr3 hr1 (sw fun b hb => (hs1 b hb).2) hk1
    have s12 := sw (sepN hr2 (sw fun b hb => (hs1 b hb).1) hq1)
    have s13 := sw (sepN hr3 (sw fun b hb => (hs1 b hb).2) hq1)
    refine .env (by (try simp only [liE, letsOf, letU, snd, List.append_nil]); rfl) (.alloc fun b1 => .append (q := q2) (cap := c2) (n := i) (qx := some ⟨b1, 0, none⟩) (kx := 1) (capx := 1) (news := [.int .i64 3]) elI hr2a (fun g => g.cells (j := 1) rfl rfl rfl) rfl (by simp [Value.oneCell']) (fun h => by cases h) (by simp [maxLen]; omega) (by omega) (fun q2' c2' m2 hr2' hk2 hq2 => ?_))
    have hr1'' := keepS hr1' hr2a s12 hk2
    have hr3' := keepS hr3a hr2a (sw hs2) hk2
    have s12' := sepN hr1' s12 hq2
    have s23 := sw (sepN hr3a (sw hs2) hq2)
    refine .env (by (try simp only [liE, letsOf, letU, snd, List.append_nil]); rfl) (.alloc fun b2 => .append (q := q3) (cap := c3) (n := i) (qx := some ⟨b2, 0, none⟩) (kx := 1) (capx := 1) (news := [.int .i64 (i : Int)]) elI hr3' (fun g => g.cells (j := 2) rfl rfl rfl) rfl (by simp [Value.oneCell']) (fun h => by cases h) (by simp [maxLen]; omega) (by omega) (fun q3' c3' m3 hr3'' hk3 hq3 => .again rfl ⟨N - (i + 1), by omega, i + 1, c1', c2', c3', q1', q2', q3', by omega, ?_, rfl, ?_, ?_, ?_, fun b hb => ⟨s12' b hb, sepN hr1'' s13 hq3 b hb⟩, sepN hr2' s23 hq3⟩))
    · (simp only [evE, liE, letsOf, letU, snd, Sh.uss, Sh.us, atAddr, map_add0, List.append_nil]); rw [add_i64 i (by omega)]
    · rw [blkL_succ]; unfold intsL at *; rw [List.map_append]
      exact keepS hr1'' hr3' s13 hk3
    · rw [List.replicate_succ']; unfold intsL at *; rw [List.map_append]
      exact keepS hr2' hr3' s23 hk3
    · rw [show ownL (i + 1) = ownL i ++ [(i : Int)] by unfold ownL; rw [List.range_succ, List.map_append]; rfl]; unfold intsL at *; rw [List.map_append]
      exact hr3''
  · replace h1 : decide ((i : Int) < ar .add .i64 1 (IntKind.i64.wrap (n' : Int))) = false := h1
    rw [eN] at h1
    have h1 := of_decide_eq_false h1
    have : N = i := by omega
    subst this
    have kA := c_Compare q1 q2 c1 c2 (blkL K N) (List.replicate N 3) (by rw [blkL_len]; omega) (by rw [List.length_replicate]; omega)
    have kB := c_Compare q1 q3 c1 c3 (blkL K N) (ownL N) (by rw [blkL_len]; omega) (by rw [ownL_len]; omega)
    have kC := c_Cubed q1 q2 c1 c2 (blkL K N) (List.replicate N 3) (by rw [blkL_len]; omega) (by rw [List.length_replicate]; omega)
    have kD := c_Cubed q1 q3 c1 c3 (blkL K N) (ownL N) (by rw [blkL_len]; omega) (by rw [ownL_len]; omega)
    have wC : wrongW (blkL K N) (List.replicate N 3) = 0 := wrong_zero (by rw [blkL_len]; exact hN) (by simp [blkL_len]) (blk_low K N) fun x hx => by rw [List.eq_of_mem_replicate hx]; decide
    have wD : wrongW (blkL K N) (ownL N) = 0 := wrong_zero (by rw [blkL_len]; exact hN) (by simp [blkL_len, ownL_len]) (blk_low K N) (own_low N)
    rw [cmp_one K N hK0 hN, blkL_len, List.length_replicate] at kA
    rw [cmp_own K N hK0 hN, blkL_len, ownL_len] at kB
    rw [cubedE_ok wC, blkL_len, List.length_replicate, valV_one] at kC
    rw [cubedE_ok wD, blkL_len, ownL_len, valV_own] at kD
    rw [cub_fst_one K N hN] at kC
    rw [cub_snd_own K N hN] at kD
    have hy := cub_snd_one K N hK0 hN hN0
    have hz := cub_fst_own K N hK0 hN hN0
    generalize cubP (fun x => x.2) ((blkL K N).map fun x => (x, (3 : Int))) = y at *
    generalize cubP (fun x => x.1) ((List.range N).map fun i => ((((i / K : Nat) : Int), (i : Int)) : Int × Int)) = z at *
    have hP : pairF N K ≤ N * (N - 1) / 2 := by
      have := prC_map_le (fun _ : Int => (3 : Int)) (blkL K N)
      rw [prC_blk hK0, show (blkL K N).map (fun _ : Int => (3 : Int)) = List.replicate N 3 by
        apply List.ext_getElem
        · simp [blkL_len]
        · intro i h1 h2; simp, prC_rep] at this
      exact this
    have hself : shareW ((pairF N K : Nat) : Int) ((pairF N K : Nat) : Int) = (1, 1) := by
      unfold shareW
      split
      · rfl
      · exact lowest_self (by omega)
    rw [hself] at kA
    have sh : ∀ {A B : Nat}, A ≤ B → (((B : Nat) : Int) = 0 → (shareW (A : Int) (B : Int)).1 = 1 ∧ (shareW (A : Int) (B : Int)).2 = 1) ∧ (((B : Nat) : Int) ≠ 0 → 0 < (shareW (A : Int) (B : Int)).2 ∧ (shareW (A : Int) (B : Int)).1 * (B : Int) = (A : Int) * (shareW (A : Int) (B : Int)).2) := fun {A B} hAB => by
      refine ⟨fun h => ?_, fun h => ?_⟩
      · unfold shareW; rw [if_pos h]; exact ⟨rfl, rfl⟩
      · unfold shareW; rw [if_neg h]
        have := lowest_ok (n := (A : Int)) (d := (B : Int)) (by omega) (by omega) (by omega)
        exact ⟨by omega, this.2.2.2.1.symm⟩
    have hq := sh hP
    have hr := sh (Nat.zero_le (pairF N K))
    generalize shareW ((pairF N K : Nat) : Int) ((N * (N - 1) / 2 : Nat) : Int) = x at *
    generalize shareW ((0 : Nat) : Int) ((pairF N K : Nat) : Int) = r at *
    unfold res3V at kA kB kC kD
    dsimp only at kA kB kC kD
    have kx := c_sameF x.1 x.2 ((pairF N K : Nat) : Int) ((N * (N - 1) / 2 : Nat) : Int) hq.1 hq.2
    have kr := c_sameF r.1 r.2 ((0 : Nat) : Int) ((pairF N K : Nat) : Int) hr.1 hr.2
    have ky := c_sameF y.1 y.2 ((sqF N K : Nat) : Int) ((N * N : Nat) : Int) (fun h => by
      have : 0 < N * N := Nat.mul_pos hN0 hN0
      omega) fun _ => hy
    have kz := c_sameF z.1 z.2 ((clsF N K : Nat) : Int) (N : Int) (fun h => by omega) fun _ => hz
    have hne : ((ar .add .i64 1 (IntKind.i64.wrap (k' : Int))) != 0) = true := by rw [eK]; exact bne_iff_ne.2 (by omega)
    refine .chk hne (.chk hne (.join (fun us m' => us = [.i (clsF N K : Nat)] ∧ m' = m) (.ite (fun h2 => .again rfl ⟨?_, rfl⟩) (fun h2 => .again rfl ⟨?_, rfl⟩)) ?_))
    · replace h2 : decide (ar .rem .i64 (ar .add .i64 1 (IntKind.i64.wrap (n' : Int))) (ar .add .i64 1 (IntKind.i64.wrap (k' : Int))) > 0) = true := h2
      rw [eN, eK, a_rem] at h2
      have h2 := of_decide_eq_true h2
      show [U.i (ar .add .i64 (ar .quo .i64 (ar .add .i64 1 (IntKind.i64.wrap (n' : Int))) (ar .add .i64 1 (IntKind.i64.wrap (k' : Int)))) 1)] = _
      rw [eN, eK, a_quo hN, add_i64 (N / K) (by omega)]
      unfold clsF
      rw [if_pos (by omega)]
    · replace h2 : decide (ar .rem .i64 (ar .add .i64 1 (IntKind.i64.wrap (n' : Int))) (ar .add .i64 1 (IntKind.i64.wrap (k' : Int))) > 0) = false := h2
      rw [eN, eK, a_rem] at h2
      have h2 := of_decide_eq_false h2
      show [U.i (ar .quo .i64 (ar .add .i64 1 (IntKind.i64.wrap (n' : Int))) (ar .add .i64 1 (IntKind.i64.wrap (k' : Int))))] = _
      rw [eN, eK, a_quo hN]
      unfold clsF
      rw [if_neg (by omega)]; rfl
    rintro us m2 _ ⟨rfl, rfl⟩
    refine .env (by (try simp only [liE, letsOf, letU, snd, List.append_nil]); rfl) (.callV kA (fun g => ⟨hr1.reads g, hr2.reads g⟩) (.env (by (try simp only [liE, letsOf, letU, snd, List.append_nil]); rfl) (.alloc fun b0 => .alloc fun b1 => .callV kB (fun g => ⟨hr1.reads g, hr3.reads g⟩) (.env (by (try simp only [liE, letsOf, letU, snd, List.append_nil]); rfl) (.alloc fun b2 => .alloc fun b3 => .join (fun us m' => us = [.b false] ∧ m' = m2) ?_ ?_)))))
    · refine .no rfl (.callV (c_frac 1 1) (fun _ => trivial) (.env (by (try simp only [liE, letsOf, letU, snd, List.append_nil]); rfl) (.no rfl (.callV kx (fun _ => trivial) ?_ (hargs := ?_)))))
      · refine .env (by (try simp only [liE, letsOf, letU, snd, List.append_nil]); rfl) (.no rfl (.callV kr (fun _ => trivial) ?_ (hargs := ?_)))
        · exact .env (by (try simp only [liE, letsOf, letU, snd, List.append_nil]); rfl) (.no rfl (.callV (c_frac 1 1) (fun _ => trivial) (.env (by (try simp only [liE, letsOf, letU, snd, List.append_nil]); rfl) (.again rfl ⟨rfl, rfl⟩))))
        · show [Value.agg #[.int .i64 r.1, .int .i64 r.2], .int .i64 0, .int .i64 (ar .add .i64 (ar .mul .i64 (ar .quo .i64 (ar .add .i64 1 (IntKind.i64.wrap (n' : Int))) (ar .add .i64 1 (IntKind.i64.wrap (k' : Int)))) (ar .quo .i64 (ar .mul .i64 (ar .add .i64 1 (IntKind.i64.wrap (k' : Int))) (ar .sub .i64 (ar .add .i64 1 (IntKind.i64.wrap (k' : Int))) 1)) 2)) (ar .quo .i64 (ar .mul .i64 (ar .rem .i64 (ar .add .i64 1 (IntKind.i64.wrap (n' : Int))) (ar .add .i64 1 (IntKind.i64.wrap (k' : Int)))) (ar .sub .i64 (ar .rem .i64 (ar .add .i64 1 (IntKind.i64.wrap (n' : Int))) (ar .add .i64 1 (IntKind.i64.wrap (k' : Int)))) 1)) 2))] = _
          rw [eN, eK, ep]; rfl
      · show [Value.agg #[.int .i64 x.1, .int .i64 x.2], .int .i64 (ar .add .i64 (ar .mul .i64 (ar .quo .i64 (ar .add .i64 1 (IntKind.i64.wrap (n' : Int))) (ar .add .i64 1 (IntKind.i64.wrap (k' : Int)))) (ar .quo .i64 (ar .mul .i64 (ar .add .i64 1 (IntKind.i64.wrap (k' : Int))) (ar .sub .i64 (ar .add .i64 1 (IntKind.i64.wrap (k' : Int))) 1)) 2)) (ar .quo .i64 (ar .mul .i64 (ar .rem .i64 (ar .add .i64 1 (IntKind.i64.wrap (n' : Int))) (ar .add .i64 1 (IntKind.i64.wrap (k' : Int)))) (ar .sub .i64 (ar .rem .i64 (ar .add .i64 1 (IntKind.i64.wrap (n' : Int))) (ar .add .i64 1 (IntKind.i64.wrap (k' : Int)))) 1)) 2)), .int .i64 (ar .quo .i64 (ar .mul .i64 (ar .add .i64 1 (IntKind.i64.wrap (n' : Int))) (ar .sub .i64 (ar .add .i64 1 (IntKind.i64.wrap (n' : Int))) 1)) 2)] = _
        rw [eN, eK, ep, ea]
    · rintro us m3 _ ⟨rfl, rfl⟩
      refine .env (by (try simp only [liE, letsOf, letU, snd, List.append_nil]); rfl) (.no rfl (.callV kC (fun g => ⟨hr1.reads g, hr2.reads g⟩) (.env (by (try simp only [liE, letsOf, letU, snd, List.append_nil]); rfl) (.alloc fun b4 => .alloc fun b5 => .callV kD (fun g => ⟨hr1.reads g, hr3.reads g⟩) (.env (by (try simp only [liE, letsOf, letU, snd, List.append_nil]); rfl) (.alloc fun b6 => .alloc fun b7 => .join (fun us m' => us = [.b true]) ?_ ?_))))))
      · refine .yes rfl (.callV (c_frac 1 1) (fun _ => trivial) (.env (by (try simp only [liE, letsOf, letU, snd, List.append_nil]); rfl) (.yes rfl (.callV ky (fun _ => trivial) ?_ (hargs := ?_)))))
        · refine .env (by (try simp only [liE, letsOf, letU, snd, List.append_nil]); rfl) (.yes rfl (.callV kz (fun _ => trivial) ?_ (hargs := ?_)))
          · exact .env (by (try simp only [liE, letsOf, letU, snd, List.append_nil]); rfl) (.yes rfl (.callV (c_frac 1 1) (fun _ => trivial) (.env (by (try simp only [liE, letsOf, letU, snd, List.append_nil]); rfl) (.yes rfl (.callV c_works (fun g => hp.mono g.R) (.again rfl rfl))))))
          · show [Value.agg #[.int .i64 z.1, .int .i64 z.2], .int .i64 (clsF N K : Nat), .int .i64 (ar .add .i64 1 (IntKind.i64.wrap (n' : Int)))] = _
            rw [eN]
        · show [Value.agg #[.int .i64 y.1, .int .i64 y.2], .int .i64 (ar .add .i64 (ar .mul .i64 (ar .mul .i64 (ar .quo .i64 (ar .add .i64 1 (IntKind.i64.wrap (n' : Int))) (ar .add .i64 1 (IntKind.i64.wrap (k' : Int)))) (ar .add .i64 1 (IntKind.i64.wrap (k' : Int)))) (ar .add .i64 1 (IntKind.i64.wrap (k' : Int)))) (ar .mul .i64 (ar .rem .i64 (ar .add .i64 1 (IntKind.i64.wrap (n' : Int))) (ar .add .i64 1 (IntKind.i64.wrap (k' : Int)))) (ar .rem .i64 (ar .add .i64 1 (IntKind.i64.wrap (n' : Int))) (ar .add .i64 1 (IntKind.i64.wrap (k' : Int)))))), .int .i64 (ar .mul .i64 (ar .add .i64 1 (IntKind.i64.wrap (n' : Int))) (ar .add .i64 1 (IntKind.i64.wrap (n' : Int))))] = _
          rw [eN, eK, es, en]
      · rintro us m4 _ rfl
        exact .env (by (try simp only [liE, letsOf, letU, snd, List.append_nil]); rfl) (.ret rfl rfl)
end Go.Proofs.YthabfpagilbplaaDoor
