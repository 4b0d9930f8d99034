/- Chapter 19: the law Shares. -/
import Derived.Test.YthabfpagilbplaaDoorRa
import Derived.Test.YthabfpagilbplaaDoorTcShares
set_option linter.unusedSimpArgs false
set_option linter.unusedVariables false
namespace Go.Proofs.YthabfpagilbplaaDoor
open Go Go.Sy Go.RowKit
/-- A row of numbers as an argument. -/
structure IR where
  p : Option Addr
  cap : Nat
  l : List Int
def IR.v (r : IR) : Value := slv r.p r.l.length r.cap
def RowsAt (R : Mv) (q : Option Addr) (rs : List IR) : Prop := Cells R q (rs.map IR.v) ∧ ∀ r ∈ rs, Cells R r.p (intsL r.l)
theorem RowsAt.mono {R S : Mv} {q : Option Addr} {rs : List IR} (h : RowsAt R q rs) (hle : R.le S) : RowsAt S q rs := ⟨h.1.mono hle, fun r hr => (h.2 r hr).mono hle⟩
def headL (rs : List IR) : Nat := match rs with | [] => 0 | r :: _ => r.l.length
def badR (n : Nat) (r : IR) : Bool := decide (r.l.length ≠ n) || r.l.any lowB
def bothR (a b : Nat) (r : IR) : Bool := decide (0 ≤ labAt r.l a) && decide (0 ≤ labAt r.l b)
def sameR (a b : Nat) (r : IR) : Bool := bothR a b r && decide (labAt r.l a = labAt r.l b)
def sharedE (rs : List IR) (a b : Int) : (Int × Int) × Int :=
  if rs.length > 256 then ((0, 0), 12) else if rs.any (badR (headL rs)) = true then ((0, 0), 2) else if rs.length = 0 ∨ a < 0 ∨ b < 0 ∨ (headL rs : Int) ≤ a ∨ (headL rs : Int) ≤ b then ((0, 0), 3)
  else (lowest (rs.countP (sameR a.toNat b.toNat) : Nat) (max (rs.countP (bothR a.toNat b.toNat)) 1 : Nat), 0)
def fracE (x : (Int × Int) × Int) : Value := .tuple #[.agg #[.int .i64 x.1.1, .int .i64 x.1.2], .int .i64 x.2]
theorem c_low2 (x : Int) : FnM Tryd.prog n_cognates_Shared_1 [.int .i64 x] (fun _ => True) fun v _ _ => v = .bool (lowB x) :=
  FnM.of S_cognates_Shared_1 mx [.i x] rfl rfl fun c _ => .ret rfl rfl
theorem row_at (rs : List IR) (i : Nat) (h : i < rs.length) : (rs.map IR.v)[i]? = some (slv rs[i].p rs[i].l.length rs[i].cap) := by rw [List.getElem?_map, List.getElem?_eq_getElem h]; rfl
theorem head_at (rs : List IR) (h : 0 < rs.length) : rs[0].l.length = headL rs := by
  match rs, h with
  | r :: _, _ => rfl
theorem countP_take (f : IR → Bool) (rs : List IR) (i : Nat) (h : i < rs.length) : (rs.take (i + 1)).countP f = (rs.take i).countP f + if f rs[i] = true then 1 else 0 := by
  rw [List.take_succ_eq_append_getElem h, List.countP_append, List.countP_cons, List.countP_nil, Nat.zero_add]
theorem c_Shared (p : Option Addr) (cp : Nat) (rs : List IR) (a b : Int) (hl : rs.length < 2 ^ 63) (hr : ∀ r ∈ rs, r.l.length < 2 ^ 63) : RetP Tryd.prog n_cognates_Shared [slv p rs.length cp, .int .i64 a, .int .i64 b] (fun R => RowsAt R p rs) (fracE (sharedE rs a b)) := by
  refine Fn.of S_cognates_Shared mx [.p p, .i rs.length, .i cp, .i a, .i b] rfl rfl fun c hp => .alloc fun b0 => .chk (by ((try simp only [evE, liE, letsOf, letU, snd]); (try simp only [cmE])); omega) (.ite (fun h1 => .ret rfl ?_) (fun h1 => .chk (by ((try simp only [evE, liE, letsOf, letU, snd]); (try simp only [cmE])); omega) ?_)) <;> ((try simp only [evE, liE, letsOf, letU, snd] at h1); (try simp only [cmE] at h1))
  · unfold sharedE; rw [if_pos (by omega)]; rfl
  have h256 : ¬ rs.length > 256 := by omega
  refine .loop (fun n us _ => ∃ (e x y : Int) (j : Nat), j ≤ rs.length ∧ us = [.i e, .i j, .i x, .i y] ∧ n = rs.length - j ∧ ∀ i (hi : i < rs.length), i < j → badR (headL rs) rs[i] = false) rs.length ⟨0, 0, 0, 0, Nat.zero_le _, rfl, rfl, fun i hi h => by omega⟩ ?_
  rintro n us m _ ⟨e, x, y, j, hj, rfl, rfl, hb⟩
  refine .env (by (try simp only [liE, letsOf, letU, snd, List.append_nil]); rfl) (.ite (fun h2 => ?_) (fun h2 => .chk (by ((try simp only [evE, liE, letsOf, letU, snd]); (try simp only [cmE])); omega) ?_)) <;> ((try simp only [evE, liE, letsOf, letU, snd] at h2); (try simp only [cmE] at h2))
  · have hj : j < rs.length := by omega
    have hh := head_at rs (by omega)
    have bad : badR (headL rs) rs[j] = true → rs.any (badR (headL rs)) = true := fun h => any_true hj h
    refine .loadSl (rs.map IR.v) j rs.length rs[j].p rs[j].l.length rs[j].cap hj (row_at rs j hj) (fun g => hp.1.mono g.R) (.env (by (try simp only [liE, letsOf, letU, snd, List.append_nil]); rfl) (.chk (by ((try simp only [evE, liE, letsOf, letU, snd]); (try simp only [cmE])); omega) (.chk ?_ (.loadS (rs.map IR.v) 0 rs[0].p rs[0].l.length rs[0].cap rfl (row_at rs 0 (by omega)) (fun g => hp.1.mono g.R) (.env (by (try simp only [liE, letsOf, letU, snd, List.append_nil]); rfl) (.chk (by ((try simp only [evE, liE, letsOf, letU, snd]); (try simp only [cmE])); omega) (.ite (fun h3 => .ret rfl ?_) (fun h3 => ?_))))))))
    · obtain ⟨pb, po, hpe, _⟩ := hp.1 0 _ (row_at rs 0 (by omega))
      subst hpe; ((try simp only [evE, liE, letsOf, letU, snd]); (try simp only [cmE])); simp [pick_and]; omega
    · ((try simp only [evE, liE, letsOf, letU, snd] at h3); (try simp only [cmE] at h3))
      unfold sharedE
      rw [if_neg h256, if_pos (bad (by unfold badR; rw [decide_eq_true (by omega)]; rfl))]; rfl
    · ((try simp only [evE, liE, letsOf, letU, snd] at h3); (try simp only [cmE] at h3))
      have k := c_containsI rs[j].p rs[j].cap rs[j].l (.func (.func n_cognates_Shared_1) #[] #[]) rfl lowB (hr _ (List.getElem_mem hj)) fun x _ => .of0 (by kernel_rfl) (c_low2 x)
      refine .callV k (fun g => (hp.2 _ (List.getElem_mem hj)).mono g.R) (.env (by (try simp only [liE, letsOf, letU, snd, List.append_nil]); rfl) (.ite (fun h4 => .ret rfl ?_) (fun h4 => .again rfl ⟨rs.length - (j + 1), by omega, e, x, y, j + 1, by omega, ?_, rfl, fun i hi hij => ?_⟩)))
      · replace h4 : rs[j].l.any lowB = true := h4
        unfold sharedE
        rw [if_neg h256, if_pos (bad (by unfold badR; rw [h4, Bool.or_true]))]; rfl
      · (simp only [evE, liE, letsOf, letU, snd, Sh.uss, Sh.us, atAddr, map_add0, List.append_nil]); rw [add_i64 j (by omega)]
      · rcases Nat.lt_or_ge i j with h | h
        · exact hb i hi h
        · have : i = j := by omega
          subst this
          replace h4 : rs[i].l.any lowB = false := h4
          unfold badR; rw [h4, decide_eq_false (by omega)]; rfl
  · have hnb : ¬ rs.any (badR (headL rs)) = true := by
      rw [any_false fun i hi => hb i hi (by omega)]; simp
    refine .ite (fun h3 => .ret rfl ?_) (fun h3 => ?_)
    · replace h3 : (bif decide ((rs.length : Int) = 0) then true else decide ((if b < a then b else a) < 0)) = true := h3
      unfold sharedE
      rw [if_neg h256, if_neg hnb, if_pos ?_]
      · rfl
      · by_cases e0 : (rs.length : Int) = 0
        · exact .inl (by omega)
        · rw [decide_eq_false e0] at h3
          replace h3 : decide ((if b < a then b else a) < 0) = true := h3
          have h3 := of_decide_eq_true h3
          split at h3 <;> omega
    · replace h3 : (bif decide ((rs.length : Int) = 0) then true else decide ((if b < a then b else a) < 0)) = false := h3
      have e0 : (rs.length : Int) ≠ 0 := fun e0 => by rw [decide_eq_true e0] at h3; cases h3
      rw [decide_eq_false e0] at h3
      replace h3 : decide ((if b < a then b else a) < 0) = false := h3
      have h3 := of_decide_eq_false h3
      have hab : 0 ≤ a ∧ 0 ≤ b := by split at h3 <;> omega
      have hh := head_at rs (by omega)
      refine .chk ?_ (.loadS (rs.map IR.v) 0 rs[0].p rs[0].l.length rs[0].cap rfl (row_at rs 0 (by omega)) (fun g => hp.1.mono g.R) (.env (by (try simp only [liE, letsOf, letU, snd, List.append_nil]); rfl) (.chk (by ((try simp only [evE, liE, letsOf, letU, snd]); (try simp only [cmE])); omega) (.ite (fun h4 => .ret rfl ?_) (fun h4 => .chk (by ((try simp only [evE, liE, letsOf, letU, snd]); (try simp only [cmE])); omega) ?_)))))
      · obtain ⟨pb, po, hpe, _⟩ := hp.1 0 _ (row_at rs 0 (by omega))
        subst hpe; ((try simp only [evE, liE, letsOf, letU, snd]); (try simp only [cmE])); simp [pick_and]; omega
      · replace h4 : decide ((if b > a then b else a) ≥ (rs[0].l.length : Int)) = true := h4
        have h4 := of_decide_eq_true h4
        unfold sharedE
        rw [if_neg h256, if_neg hnb, if_pos (by split at h4 <;> omega)]; rfl
      · replace h4 : decide ((if b > a then b else a) ≥ (rs[0].l.length : Int)) = false := h4
        have h4 := of_decide_eq_false h4
        have hlt : a < (headL rs : Int) ∧ b < (headL rs : Int) := by split at h4 <;> omega
        have hsp : sharedE rs a b = (lowest (rs.countP (sameR a.toNat b.toNat) : Nat) (max (rs.countP (bothR a.toNat b.toNat)) 1 : Nat), 0) := by
          unfold sharedE; rw [if_neg h256, if_neg hnb, if_neg (by omega)]
        have hlen : ∀ i (hi : i < rs.length), rs[i].l.length = headL rs := fun i hi => by
          have := hb i hi (by omega)
          unfold badR at this
          simp at this
          exact this.1
        rw [hsp]
        obtain ⟨A, rfl⟩ := Int.eq_ofNat_of_zero_le hab.1
        obtain ⟨B, rfl⟩ := Int.eq_ofNat_of_zero_le hab.2
        simp only [Int.toNat_natCast]
        have hcl : ∀ (f : IR → Bool) i, (rs.take i).countP f ≤ 256 := fun f i => Nat.le_trans List.countP_le_length (by rw [List.length_take]; omega)
        refine .loop (fun n us _ => ∃ i : Nat, i ≤ rs.length ∧ n = rs.length - i ∧ us = [.i ((rs.take i).countP (sameR A B) : Nat), .i ((rs.take i).countP (bothR A B) : Nat), .i i]) rs.length ⟨0, Nat.zero_le _, rfl, rfl⟩ ?_
        rintro n us m2 _ ⟨i, hi, rfl, rfl⟩
        have c1 := hcl (sameR A B) i
        have c2 := hcl (bothR A B) i
        refine .env (by (try simp only [liE, letsOf, letU, snd, List.append_nil]); rfl) (.ite (fun h5 => ?_) (fun h5 => ?_)) <;> ((try simp only [evE, liE, letsOf, letU, snd] at h5); (try simp only [cmE] at h5))
        · have hi : i < rs.length := by omega
          have hli := hlen i hi
          have s1 := countP_take (sameR A B) rs i hi
          have s2 := countP_take (bothR A B) rs i hi
          have hrow := hp.2 _ (List.getElem_mem hi)
          refine .loadSl (rs.map IR.v) i rs.length rs[i].p rs[i].l.length rs[i].cap hi (row_at rs i hi) (fun g => hp.1.mono g.R) (.env (by (try simp only [liE, letsOf, letU, snd, List.append_nil]); rfl) (.elem1 (.int .i64 (labAt rs[i].l A)) (intsL rs[i].l) A rs[i].l.length rfl rfl (by omega) (fun g => hrow.mono g.R) (intsL_at _ _ (by omega)) (.env (by (try simp only [liE, letsOf, letU, snd, List.append_nil]); rfl) (.ite (fun h6 => ?_) (fun h6 => ?_))))) <;> ((try simp only [evE, liE, letsOf, letU, snd] at h6); (try simp only [cmE] at h6))
          · have nb : bothR A B rs[i] = false := by unfold bothR; rw [decide_eq_false (by omega)]; rfl
            rw [if_neg (by unfold sameR; rw [nb]; simp)] at s1
            rw [if_neg (by rw [nb]; simp)] at s2
            refine .again rfl ⟨rs.length - (i + 1), by omega, i + 1, by omega, rfl, ?_⟩
            (simp only [evE, liE, letsOf, letU, snd, Sh.uss, Sh.us, atAddr, map_add0, List.append_nil]); rw [add_i64 i (by omega), s1, s2]; rfl
          · refine .elem1 (.int .i64 (labAt rs[i].l B)) (intsL rs[i].l) B rs[i].l.length rfl rfl (by omega) (fun g => hrow.mono g.R) (intsL_at _ _ (by omega)) (.env (by (try simp only [liE, letsOf, letU, snd, List.append_nil]); rfl) (.ite (fun h7 => ?_) (fun h7 => ?_))) <;> ((try simp only [evE, liE, letsOf, letU, snd] at h7); (try simp only [cmE] at h7))
            · have nb : bothR A B rs[i] = false := by unfold bothR; rw [decide_eq_false (show ¬ 0 ≤ labAt rs[i].l B by omega), Bool.and_false]
              rw [if_neg (by unfold sameR; rw [nb]; simp)] at s1
              rw [if_neg (by rw [nb]; simp)] at s2
              refine .again rfl ⟨rs.length - (i + 1), by omega, i + 1, by omega, rfl, ?_⟩
              (simp only [evE, liE, letsOf, letU, snd, Sh.uss, Sh.us, atAddr, map_add0, List.append_nil]); rw [add_i64 i (by omega), s1, s2]; rfl
            · have yb : bothR A B rs[i] = true := by unfold bothR; rw [decide_eq_true (by omega), decide_eq_true (by omega)]; rfl
              rw [if_pos yb] at s2
              refine .elem1 (.int .i64 (labAt rs[i].l A)) (intsL rs[i].l) A rs[i].l.length rfl rfl (by omega) (fun g => hrow.mono g.R) (intsL_at _ _ (by omega)) (.env (by (try simp only [liE, letsOf, letU, snd, List.append_nil]); rfl) (.elem1 (.int .i64 (labAt rs[i].l B)) (intsL rs[i].l) B rs[i].l.length rfl rfl (by omega) (fun g => hrow.mono g.R) (intsL_at _ _ (by omega)) (.env (by (try simp only [liE, letsOf, letU, snd, List.append_nil]); rfl) (.ite (fun h8 => ?_) (fun h8 => ?_))))) <;> ((try simp only [evE, liE, letsOf, letU, snd] at h8); (try simp only [cmE] at h8))
              · rw [if_pos (by unfold sameR; rw [yb, decide_eq_true h8]; rfl)] at s1
                refine .again rfl ⟨rs.length - (i + 1), by omega, i + 1, by omega, rfl, ?_⟩
                (simp only [evE, liE, letsOf, letU, snd, Sh.uss, Sh.us, atAddr, map_add0, List.append_nil]); rw [add_i64 i (by omega), s1, s2, addI (by omega) (by omega), addI (by omega) (by omega)]; rfl
              · rw [if_neg (by unfold sameR; rw [yb, decide_eq_false h8]; simp)] at s1
                refine .again rfl ⟨rs.length - (i + 1), by omega, i + 1, by omega, rfl, ?_⟩
                (simp only [evE, liE, letsOf, letU, snd, Sh.uss, Sh.us, atAddr, map_add0, List.append_nil]); rw [add_i64 i (by omega), s1, s2, addI (by omega) (by omega)]; rfl
        · have : i = rs.length := by omega
          subst this
          rw [List.take_length] at c1 c2 ⊢
          have klo := c_lowest19 (rs.countP (sameR A B) : Nat) (max (rs.countP (bothR A B)) 1 : Nat) (by omega) (by omega)
          refine .callV klo (fun _ => trivial) (.env (by (try simp only [liE, letsOf, letU, snd, List.append_nil]); rfl) (.ret rfl rfl)) (hargs := ?_)
          show [Value.int .i64 ((rs.countP (sameR A B) : Nat) : Int), .int .i64 (if (1 : Int) > ((rs.countP (bothR A B) : Nat) : Int) then 1 else ((rs.countP (bothR A B) : Nat) : Int))] = _
          rw [show (if (1 : Int) > ((rs.countP (bothR A B) : Nat) : Int) then (1 : Int) else ((rs.countP (bothR A B) : Nat) : Int)) = ((max (rs.countP (bothR A B)) 1 : Nat) : Int) by split <;> omega]
theorem c_refShared (p : Option Addr) (cp : Nat) (rs : List IR) (a b : Int) (hl : rs.length < 2 ^ 63) (hr : ∀ r ∈ rs, r.l.length < 2 ^ 63) : RetP Tryd.prog n_ref19_Shared [slv p rs.length cp, .int .i64 a, .int .i64 b] (fun R => RowsAt R p rs) (fracE (sharedE rs a b)) := by
  refine Fn.of S_ref19_Shared mx [.p p, .i rs.length, .i cp, .i a, .i b] rfl rfl fun c hp => .alloc fun b0 => .chk (by ((try simp only [evE, liE, letsOf, letU, snd]); (try simp only [cmE])); omega) (.ite (fun h1 => .ret rfl ?_) (fun h1 => ?_)) <;> ((try simp only [evE, liE, letsOf, letU, snd] at h1); (try simp only [cmE] at h1))
  · unfold sharedE; rw [if_pos (by omega)]; rfl
  have h256 : ¬ rs.length > 256 := by omega
  refine .loop (fun n us _ => ∃ (e x y : Int) (j : Nat), j ≤ rs.length ∧ us = [.i e, .i j, .i x, .i y] ∧ n = rs.length - j ∧ ∀ i (hi : i < rs.length), i < j → badR (headL rs) rs[i] = false) rs.length ⟨0, 0, 0, 0, Nat.zero_le _, rfl, rfl, fun i hi h => by omega⟩ ?_
  rintro n us m _ ⟨e, x, y, j, hj, rfl, rfl, hb⟩
  refine .chk (by ((try simp only [evE, liE, letsOf, letU, snd]); (try simp only [cmE])); omega) (.env (by (try simp only [liE, letsOf, letU, snd, List.append_nil]); rfl) (.ite (fun h2 => ?_) (fun h2 => .chk (by ((try simp only [evE, liE, letsOf, letU, snd]); (try simp only [cmE])); omega) ?_))) <;> ((try simp only [evE, liE, letsOf, letU, snd] at h2); (try simp only [cmE] at h2))
  · have hj : j < rs.length := by omega
    have hh := head_at rs (by omega)
    have hrow := hp.2 _ (List.getElem_mem hj)
    have hrl := hr _ (List.getElem_mem hj)
    have bad : badR (headL rs) rs[j] = true → rs.any (badR (headL rs)) = true := fun h => any_true hj h
    refine .loadSl (rs.map IR.v) j rs.length rs[j].p rs[j].l.length rs[j].cap hj (row_at rs j hj) (fun g => hp.1.mono g.R) (.env (by (try simp only [liE, letsOf, letU, snd, List.append_nil]); rfl) (.chk (by ((try simp only [evE, liE, letsOf, letU, snd]); (try simp only [cmE])); omega) (.chk ?_ (.loadS (rs.map IR.v) 0 rs[0].p rs[0].l.length rs[0].cap rfl (row_at rs 0 (by omega)) (fun g => hp.1.mono g.R) (.env (by (try simp only [liE, letsOf, letU, snd, List.append_nil]); rfl) (.chk (by ((try simp only [evE, liE, letsOf, letU, snd]); (try simp only [cmE])); omega) (.ite (fun h3 => .ret rfl ?_) (fun h3 => ?_))))))))
    · obtain ⟨pb, po, hpe, _⟩ := hp.1 0 _ (row_at rs 0 (by omega))
      subst hpe; ((try simp only [evE, liE, letsOf, letU, snd]); (try simp only [cmE])); simp [pick_and]; omega
    · ((try simp only [evE, liE, letsOf, letU, snd] at h3); (try simp only [cmE] at h3))
      unfold sharedE
      rw [if_neg h256, if_pos (bad (by unfold badR; rw [decide_eq_true (by omega)]; rfl))]; rfl
    · ((try simp only [evE, liE, letsOf, letU, snd] at h3); (try simp only [cmE] at h3))
      refine .loop (fun n us _ => ∃ (e x y : Int) (k : Nat), k ≤ rs[j].l.length ∧ us = [.i e, .i k, .i x, .i y] ∧ n = rs[j].l.length - k ∧ ∀ i, i < k → lowB (labAt rs[j].l i) = false) rs[j].l.length ⟨e, x, y, 0, Nat.zero_le _, rfl, rfl, fun i h => by omega⟩ ?_
      rintro n2 us m2 _ ⟨e2, x2, y2, k, hk, rfl, rfl, hb2⟩
      refine .env (by (try simp only [liE, letsOf, letU, snd, List.append_nil]); rfl) (.loadSl (rs.map IR.v) j rs.length rs[j].p rs[j].l.length rs[j].cap hj (row_at rs j hj) (fun g => hp.1.mono g.R) (.env (by (try simp only [liE, letsOf, letU, snd, List.append_nil]); rfl) (.chk (by ((try simp only [evE, liE, letsOf, letU, snd]); (try simp only [cmE])); omega) (.ite (fun h4 => ?_) (fun h4 => ?_))))) <;> ((try simp only [evE, liE, letsOf, letU, snd] at h4); (try simp only [cmE] at h4))
      · have hk : k < rs[j].l.length := by omega
        refine .loadSl (rs.map IR.v) j rs.length rs[j].p rs[j].l.length rs[j].cap hj (row_at rs j hj) (fun g => hp.1.mono g.R) (.env (by (try simp only [liE, letsOf, letU, snd, List.append_nil]); rfl) (.elem1 (.int .i64 (labAt rs[j].l k)) (intsL rs[j].l) k rs[j].l.length rfl rfl hk (fun g => hrow.mono g.R) (intsL_at _ _ hk) (.env (by (try simp only [liE, letsOf, letU, snd, List.append_nil]); rfl) (.ite (fun h5 => .ret rfl ?_) (fun h5 => .again rfl ⟨rs[j].l.length - (k + 1), by omega, e2, x2, y2, k + 1, by omega, ?_, rfl, fun i hi => ?_⟩)))))
        · replace h5 : lowB (labAt rs[j].l k) = true := h5
          have : rs[j].l.any lowB = true := any_true hk (by rw [← labAt_get hk]; exact h5)
          unfold sharedE
          rw [if_neg h256, if_pos (bad (by unfold badR; rw [this, Bool.or_true]))]; rfl
        · (simp only [evE, liE, letsOf, letU, snd, Sh.uss, Sh.us, atAddr, map_add0, List.append_nil]); rw [add_i64 k (by omega)]
        · rcases Nat.lt_or_ge i k with h | h
          · exact hb2 i h
          · have : i = k := by omega
            subst this; exact h5
      · have hno : rs[j].l.any lowB = false := any_false fun i hi => by rw [← labAt_get hi]; exact hb2 i (by omega)
        refine .again rfl ⟨rs.length - (j + 1), by omega, e2, x2, y2, j + 1, by omega, ?_, rfl, fun i hi hij => ?_⟩
        · (simp only [evE, liE, letsOf, letU, snd, Sh.uss, Sh.us, atAddr, map_add0, List.append_nil]); rw [add_i64 j (by omega)]
        · rcases Nat.lt_or_ge i j with h | h
          · exact hb i hi h
          · have : i = j := by omega
            subst this
            unfold badR; rw [hno, decide_eq_false (by omega)]; rfl
  · have hnb : ¬ rs.any (badR (headL rs)) = true := by
      rw [any_false fun i hi => hb i hi (by omega)]; simp
    have err : (rs.length = 0 ∨ a < 0 ∨ b < 0 ∨ (headL rs : Int) ≤ a ∨ (headL rs : Int) ≤ b) → sharedE rs a b = ((0, 0), 3) := fun h => by
      unfold sharedE; rw [if_neg h256, if_neg hnb, if_pos h]
    refine .ite (fun h3 => .ret rfl ?_) (fun h3 => ?_)
    · replace h3 : (bif decide ((rs.length : Int) = 0) then true else decide (a < 0)) = true := h3
      rw [err ?_]
      · rfl
      · by_cases e0 : (rs.length : Int) = 0
        · exact .inl (by omega)
        · rw [decide_eq_false e0] at h3
          exact .inr (.inl (of_decide_eq_true h3))
    · replace h3 : (bif decide ((rs.length : Int) = 0) then true else decide (a < 0)) = false := h3
      have e0 : (rs.length : Int) ≠ 0 := fun e0 => by rw [decide_eq_true e0] at h3; cases h3
      rw [decide_eq_false e0] at h3
      have ha := of_decide_eq_false (show decide (a < 0) = false from h3)
      have hh := head_at rs (by omega)
      have hpt : ∃ pb po, p = some ⟨pb, po, none⟩ := by
        obtain ⟨pb, po, hpe, _⟩ := hp.1 0 _ (row_at rs 0 (by omega))
        exact ⟨pb, po, hpe⟩
      refine .chk ?_ (.loadS (rs.map IR.v) 0 rs[0].p rs[0].l.length rs[0].cap rfl (row_at rs 0 (by omega)) (fun g => hp.1.mono g.R) (.env (by (try simp only [liE, letsOf, letU, snd, List.append_nil]); rfl) (.chk (by ((try simp only [evE, liE, letsOf, letU, snd]); (try simp only [cmE])); omega) (.ite (fun h4 => .ret rfl ?_) (fun h4 => .chk ?_ (.loadS (rs.map IR.v) 0 rs[0].p rs[0].l.length rs[0].cap rfl (row_at rs 0 (by omega)) (fun g => hp.1.mono g.R) (.env (by (try simp only [liE, letsOf, letU, snd, List.append_nil]); rfl) (.chk (by ((try simp only [evE, liE, letsOf, letU, snd]); (try simp only [cmE])); omega) (.ite (fun h5 => .ret rfl ?_) (fun h5 => ?_))))))))))
      · obtain ⟨pb, po, rfl⟩ := hpt
        ((try simp only [evE, liE, letsOf, letU, snd]); (try simp only [cmE])); simp [pick_and]; omega
      · replace h4 : (bif decide (a ≥ (rs[0].l.length : Int)) then true else decide (b < 0)) = true := h4
        rw [err ?_]
        · rfl
        · by_cases e1 : a ≥ (rs[0].l.length : Int)
          · omega
          · rw [decide_eq_false e1] at h4
            have := of_decide_eq_true (show decide (b < 0) = true from h4)
            omega
      · obtain ⟨pb, po, rfl⟩ := hpt
        ((try simp only [evE, liE, letsOf, letU, snd]); (try simp only [cmE])); simp [pick_and]; omega
      · ((try simp only [evE, liE, letsOf, letU, snd] at h5); (try simp only [cmE] at h5))
        rw [err (by omega)]; rfl
      · ((try simp only [evE, liE, letsOf, letU, snd] at h5); (try simp only [cmE] at h5))
        replace h4 : (bif decide (a ≥ (rs[0].l.length : Int)) then true else decide (b < 0)) = false := h4
        have e1 : ¬ a ≥ (rs[0].l.length : Int) := fun e1 => by rw [decide_eq_true e1] at h4; cases h4
        rw [decide_eq_false e1] at h4
        have hb0 := of_decide_eq_false (show decide (b < 0) = false from h4)
        have hlt : a < (headL rs : Int) ∧ b < (headL rs : Int) := by omega
        have hsp : sharedE rs a b = (lowest (rs.countP (sameR a.toNat b.toNat) : Nat) (max (rs.countP (bothR a.toNat b.toNat)) 1 : Nat), 0) := by
          unfold sharedE; rw [if_neg h256, if_neg hnb, if_neg (by omega)]
        have hlen : ∀ i (hi : i < rs.length), rs[i].l.length = headL rs := fun i hi => by
          have := hb i hi (by omega)
          unfold badR at this
          simp at this
          exact this.1
        rw [hsp]
        obtain ⟨A, rfl⟩ := Int.eq_ofNat_of_zero_le (show 0 ≤ a by omega)
        obtain ⟨B, rfl⟩ := Int.eq_ofNat_of_zero_le (show 0 ≤ b by omega)
        simp only [Int.toNat_natCast]
        have hcl : ∀ (f : IR → Bool) i, (rs.take i).countP f ≤ 256 := fun f i => Nat.le_trans List.countP_le_length (by rw [List.length_take]; omega)
        refine .loop (fun n us _ => ∃ i : Nat, i ≤ rs.length ∧ n = rs.length - i ∧ us = [.i ((rs.take i).countP (bothR A B) : Nat), .i ((rs.take i).countP (sameR A B) : Nat), .i i]) rs.length ⟨0, Nat.zero_le _, rfl, rfl⟩ ?_
        rintro n us m2 _ ⟨i, hi, rfl, rfl⟩
        have c1 := hcl (sameR A B) i
        have c2 := hcl (bothR A B) i
        refine .chk (by ((try simp only [evE, liE, letsOf, letU, snd]); (try simp only [cmE])); omega) (.env (by (try simp only [liE, letsOf, letU, snd, List.append_nil]); rfl) (.ite (fun h5 => ?_) (fun h5 => ?_))) <;> ((try simp only [evE, liE, letsOf, letU, snd] at h5); (try simp only [cmE] at h5))
        · have hi : i < rs.length := by omega
          have hli := hlen i hi
          have s1 := countP_take (sameR A B) rs i hi
          have s2 := countP_take (bothR A B) rs i hi
          have hrow := hp.2 _ (List.getElem_mem hi)
          refine .loadSl (rs.map IR.v) i rs.length rs[i].p rs[i].l.length rs[i].cap hi (row_at rs i hi) (fun g => hp.1.mono g.R) (.env (by (try simp only [liE, letsOf, letU, snd, List.append_nil]); rfl) (.elem1 (.int .i64 (labAt rs[i].l A)) (intsL rs[i].l) A rs[i].l.length rfl rfl (by omega) (fun g => hrow.mono g.R) (intsL_at _ _ (by omega)) (.env (by (try simp only [liE, letsOf, letU, snd, List.append_nil]); rfl) (.ite (fun h6 => ?_) (fun h6 => ?_))))) <;> ((try simp only [evE, liE, letsOf, letU, snd] at h6); (try simp only [cmE] at h6))
          · refine .loadSl (rs.map IR.v) i rs.length rs[i].p rs[i].l.length rs[i].cap hi (row_at rs i hi) (fun g => hp.1.mono g.R) (.env (by (try simp only [liE, letsOf, letU, snd, List.append_nil]); rfl) (.elem1 (.int .i64 (labAt rs[i].l B)) (intsL rs[i].l) B rs[i].l.length rfl rfl (by omega) (fun g => hrow.mono g.R) (intsL_at _ _ (by omega)) (.env (by (try simp only [liE, letsOf, letU, snd, List.append_nil]); rfl) (.ite (fun h7 => ?_) (fun h7 => ?_))))) <;> ((try simp only [evE, liE, letsOf, letU, snd] at h7); (try simp only [cmE] at h7))
            · have yb : bothR A B rs[i] = true := by unfold bothR; rw [decide_eq_true (by omega), decide_eq_true (by omega)]; rfl
              rw [if_pos yb] at s2
              refine .loadSl (rs.map IR.v) i rs.length rs[i].p rs[i].l.length rs[i].cap hi (row_at rs i hi) (fun g => hp.1.mono g.R) (.env (by (try simp only [liE, letsOf, letU, snd, List.append_nil]); rfl) (.elem1 (.int .i64 (labAt rs[i].l A)) (intsL rs[i].l) A rs[i].l.length rfl rfl (by omega) (fun g => hrow.mono g.R) (intsL_at _ _ (by omega)) (.env (by (try simp only [liE, letsOf, letU, snd, List.append_nil]); rfl) (.loadSl (rs.map IR.v) i rs.length rs[i].p rs[i].l.length rs[i].cap hi (row_at rs i hi) (fun g => hp.1.mono g.R) (.env (by (try simp only [liE, letsOf, letU, snd, List.append_nil]); rfl) (.elem1 (.int .i64 (labAt rs[i].l B)) (intsL rs[i].l) B rs[i].l.length rfl rfl (by omega) (fun g => hrow.mono g.R) (intsL_at _ _ (by omega)) (.env (by (try simp only [liE, letsOf, letU, snd, List.append_nil]); rfl) (.ite (fun h8 => ?_) (fun h8 => ?_))))))))) <;> ((try simp only [evE, liE, letsOf, letU, snd] at h8); (try simp only [cmE] at h8))
              · rw [if_pos (by unfold sameR; rw [yb, decide_eq_true h8]; rfl)] at s1
                refine .again rfl ⟨rs.length - (i + 1), by omega, i + 1, by omega, rfl, ?_⟩
                (simp only [evE, liE, letsOf, letU, snd, Sh.uss, Sh.us, atAddr, map_add0, List.append_nil]); rw [add_i64 i (by omega), s1, s2, addI (by omega) (by omega), addI (by omega) (by omega)]; rfl
              · rw [if_neg (by unfold sameR; rw [yb, decide_eq_false h8]; simp)] at s1
                refine .again rfl ⟨rs.length - (i + 1), by omega, i + 1, by omega, rfl, ?_⟩
                (simp only [evE, liE, letsOf, letU, snd, Sh.uss, Sh.us, atAddr, map_add0, List.append_nil]); rw [add_i64 i (by omega), s1, s2, addI (by omega) (by omega)]; rfl
            · have nb : bothR A B rs[i] = false := by unfold bothR; rw [decide_eq_false (show ¬ 0 ≤ labAt rs[i].l B by omega), Bool.and_false]
              rw [if_neg (by unfold sameR; rw [nb]; simp)] at s1
              rw [if_neg (by rw [nb]; simp)] at s2
              refine .again rfl ⟨rs.length - (i + 1), by omega, i + 1, by omega, rfl, ?_⟩
              (simp only [evE, liE, letsOf, letU, snd, Sh.uss, Sh.us, atAddr, map_add0, List.append_nil]); rw [add_i64 i (by omega), s1, s2]; rfl
          · have nb : bothR A B rs[i] = false := by unfold bothR; rw [decide_eq_false (by omega)]; rfl
            rw [if_neg (by unfold sameR; rw [nb]; simp)] at s1
            rw [if_neg (by rw [nb]; simp)] at s2
            refine .again rfl ⟨rs.length - (i + 1), by omega, i + 1, by omega, rfl, ?_⟩
            (simp only [evE, liE, letsOf, letU, snd, Sh.uss, Sh.us, atAddr, map_add0, List.append_nil]); rw [add_i64 i (by omega), s1, s2]; rfl
        · have : i = rs.length := by omega
          subst this
          rw [List.take_length] at c1 c2 ⊢
          refine .ite (fun h6 => .ret rfl ?_) (fun h6 => ?_) <;> ((try simp only [evE, liE, letsOf, letU, snd] at h6); (try simp only [cmE] at h6))
          · have z2 : rs.countP (bothR A B) = 0 := by omega
            have z1 : rs.countP (sameR A B) = 0 := by
              have : rs.countP (sameR A B) ≤ rs.countP (bothR A B) := List.countP_mono_left fun r _ h => by
                unfold sameR at h; simp at h; exact h.1
              omega
            rw [z1, z2]; rfl
          · have klo := c_share (rs.countP (sameR A B) : Nat) (rs.countP (bothR A B) : Nat) (by omega) (by omega)
            rw [show shareW (rs.countP (sameR A B) : Nat) (rs.countP (bothR A B) : Nat) = lowest (rs.countP (sameR A B) : Nat) (max (rs.countP (bothR A B)) 1 : Nat) by unfold shareW; rw [if_neg (by omega), Nat.max_eq_left (by omega)]] at klo
            exact .callV klo (fun _ => trivial) (.env (by (try simp only [liE, letsOf, letU, snd, List.append_nil]); rfl) (.ret rfl rfl))
theorem l_CognatesShares (p : Option Addr) (cp : Nat) (rs : List IR) (a b : Int) (hl : rs.length < 2 ^ 63) (hr : ∀ r ∈ rs, r.l.length < 2 ^ 63) : RetP Tryd.prog n_law19_CognatesShares [slv p rs.length cp, .int .i64 a, .int .i64 b] (fun R => RowsAt R p rs ∧ TabOk R) (.bool true) := by
  refine Fn.of S_law19_CognatesShares mx [.p p, .i rs.length, .i cp, .i a, .i b] rfl rfl fun c hp => .chk (by ((try simp only [evE, liE, letsOf, letU, snd]); (try simp only [cmE])); omega) ?_
  refine .loop (fun n us _ => ∃ (s : Int) (j : Nat), j ≤ rs.length ∧ us = [.i s, .i j] ∧ n = rs.length - j) rs.length ⟨0, 0, Nat.zero_le _, rfl, rfl⟩ ?_
  rintro n us m _ ⟨s, j, hj, rfl, rfl⟩
  refine .env (by (try simp only [liE, letsOf, letU, snd, List.append_nil]); rfl) (.ite (fun h1 => ?_) (fun h1 => .chk (by ((try simp only [evE, liE, letsOf, letU, snd]); (try simp only [cmE])); omega) (.ite (fun h2 => .callV c_works (fun g => hp.2.mono g.R) (.ret rfl rfl)) (fun h2 => ?_)))) <;> ((try simp only [evE, liE, letsOf, letU, snd] at h1); (try simp only [cmE] at h1))
  · have hj : j < rs.length := by omega
    refine .loadSl (rs.map IR.v) j rs.length rs[j].p rs[j].l.length rs[j].cap hj (row_at rs j hj) (fun g => hp.1.1.mono g.R) (.env (by (try simp only [liE, letsOf, letU, snd, List.append_nil]); rfl) (.chk (by ((try simp only [evE, liE, letsOf, letU, snd]); (try simp only [cmE])); omega) (.again rfl ⟨rs.length - (j + 1), by omega, ar .add .i64 s (rs[j].l.length : Int), j + 1, by omega, ?_, rfl⟩)))
    (simp only [evE, liE, letsOf, letU, snd, Sh.uss, Sh.us, atAddr, map_add0, List.append_nil]); rw [add_i64 j (by omega)]
  · have k1 := c_Shared p cp rs a b hl hr
    have k2 := c_refShared p cp rs a b hl hr
    unfold fracE at k1 k2
    generalize sharedE rs a b = x at *
    refine .callV k1 (fun g => hp.1.mono g.R) (.alloc fun b0 => .env (by (try simp only [liE, letsOf, letU, snd, List.append_nil]); rfl) (.callV k2 (fun g => hp.1.mono g.R) (.alloc fun b1 => .env (by (try simp only [liE, letsOf, letU, snd, List.append_nil]); rfl) (.yes (by ((try simp only [evE, liE, letsOf, letU, snd]); (try simp only [cmE])) <;> simp) (.callV c_works (fun g => hp.2.mono g.R) (.ret rfl rfl))))))
end Go.Proofs.YthabfpagilbplaaDoor
