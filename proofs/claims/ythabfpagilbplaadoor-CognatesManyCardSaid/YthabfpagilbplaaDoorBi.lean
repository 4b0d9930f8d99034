/- Chapter 19: the laws Compares and Labels. -/
import Derived.Test.YthabfpagilbplaaDoorBh
import Derived.Test.YthabfpagilbplaaDoorTcCompares
import Derived.Test.YthabfpagilbplaaDoorTcLabels
import Derived.Test.YthabfpagilbplaaDoorTcShares
import Derived.Test.YthabfpagilbplaaDoorTh
set_option linter.unusedSimpArgs false
set_option linter.unusedVariables false
/- Chapter 19: the laws Compares and Labels. -/
namespace Go.Proofs.YthabfpagilbplaaDoor
open Go Go.Sy Go.RowKit
end Go.Proofs.YthabfpagilbplaaDoor
/- Chapter 19: the law Shares. -/
namespace Go.Proofs.YthabfpagilbplaaDoor
open Go Go.Sy Go.RowKit
structure IR where
  p : Option Addr
  cap : Nat
  l : List Int
def IR.v (r : IR) : Value := slv r.p r.l.length r.cap
def RowsAt (R : Mv) (q : Option Addr) (rs : List IR) : Prop := Cells R q (rs.map IR.v) ∧ ∀ r ∈ rs, Cells R r.p (intsL r.l)
def headL (rs : List IR) : Nat := match rs with | [] => 0 | r :: _ => r.l.length
def badR (n : Nat) (r : IR) : Bool := decide (r.l.length ≠ n) || r.l.any lowB
def bothR (a b : Nat) (r : IR) : Bool := decide (0 ≤ labAt r.l a) && decide (0 ≤ labAt r.l b)
def sameR (a b : Nat) (r : IR) : Bool := bothR a b r && decide (labAt r.l a = labAt r.l b)
def sharedE (rs : List IR) (a b : Int) : (Int × Int) × Int :=
  if rs.length > 256 then ((0, 0), 12) else if rs.any (badR (headL rs)) = true then ((0, 0), 2) else if rs.length = 0 ∨ a < 0 ∨ b < 0 ∨ (headL rs : Int) ≤ a ∨ (headL rs : Int) ≤ b then ((0, 0), 3)
  else (lowest (rs.countP (sameR a.toNat b.toNat) : Nat) (max (rs.countP (bothR a.toNat b.toNat)) 1 : Nat), 0)
def fracE (x : (Int × Int) × Int) : Value := .tuple #[.agg #[.int .i64 x.1.1, .int .i64 x.1.2], .int .i64 x.2]
theorem c_low2 (x : Int) : FnM Tryd.prog n_cognates_Shared_1 [.int .i64 x] (fun _ => True) fun v _ _ => v = .bool (lowB x) :=
  FnM.of S_cognates_Shared_1 mx [.i x] rfl rfl fun c _ => .ret rfl rfl
theorem row_at (rs : List IR) (i : Nat) (h : i < rs.length) : (rs.map IR.v)[i]? = some (slv rs[i].p rs[i].l.length rs[i].cap) := by rw [List.getElem?_map, List.getElem?_eq_getElem h]; rfl
theorem head_at (rs : List IR) (h : 0 < rs.length) : rs[0].l.length = headL rs := by
  match rs, h with
  | r :: _, _ => rfl
theorem countP_take (f : IR → Bool) (rs : List IR) (i : Nat) (h : i < rs.length) : (rs.take (i + 1)).countP f = (rs.take i).countP f + if f rs[i] = true then 1 else 0 := by
  rw [List.take_succ_eq_append_getElem h, List.countP_append, List.countP_cons, List.countP_nil, Nat.zero_add]
theorem c_Shared (p : Option Addr) (cp : Nat) (rs : List IR) (a b : Int) (hl : rs.length < 2 ^ 63) (hr : ∀ r ∈ rs, r.l.length < 2 ^ 63) : RetP Tryd.prog n_cognates_Shared [slv p rs.length cp, .int .i64 a, .int .i64 b] (fun R => RowsAt R p rs) (fracE (sharedE rs a b)) := by
  refine Fn.of S_cognates_Shared mx [.p p, .i rs.length, .i cp, .i a, .i b] rfl rfl fun c hp => .alloc fun b0 => .chk (by ((try simp only [evE, liE, lO, lU, snd]); (try simp only [cmE])); omega) (.ite (fun h1 => .ret rfl ?_) (fun h1 => .chk (by ((try simp only [evE, liE, lO, lU, snd]); (try simp only [cmE])); omega) ?_)) <;> ((try simp only [evE, liE, lO, lU, snd] at h1); (try simp only [cmE] at h1))
  · unfold sharedE; rw [if_pos (by omega)]; rfl
  have h256 : ¬ rs.length > 256 := by omega
  refine .loop (fun n us _ => ∃ (e x y : Int) (j : Nat), j ≤ rs.length ∧ us = [.i e, .i j, .i x, .i y] ∧ n = rs.length - j ∧ ∀ i (hi : i < rs.length), i < j → badR (headL rs) rs[i] = false) rs.length ⟨0, 0, 0, 0, Nat.zero_le _, rfl, rfl, fun i hi h => by omega⟩ ?_
  rintro n us m _ ⟨e, x, y, j, hj, rfl, rfl, hb⟩
  refine .env (by (try simp only [liE, lO, lU, snd, aN]); rfl) (.ite (fun h2 => ?_) (fun h2 => .chk (by ((try simp only [evE, liE, lO, lU, snd]); (try simp only [cmE])); omega) ?_)) <;> ((try simp only [evE, liE, lO, lU, snd] at h2); (try simp only [cmE] at h2))
  · have hj : j < rs.length := by omega
    have hh := head_at rs (by omega)
    have bad : badR (headL rs) rs[j] = true → rs.any (badR (headL rs)) = true := fun h => any_true hj h
    refine .loadSl (rs.map IR.v) j rs.length rs[j].p rs[j].l.length rs[j].cap hj (row_at rs j hj) (fun g => hp.1.mono g.R) (.env (by (try simp only [liE, lO, lU, snd, aN]); rfl) (.chk (by ((try simp only [evE, liE, lO, lU, snd]); (try simp only [cmE])); omega) (.chk ?_ (.loadS (rs.map IR.v) 0 rs[0].p rs[0].l.length rs[0].cap rfl (row_at rs 0 (by omega)) (fun g => hp.1.mono g.R) (.env (by (try simp only [liE, lO, lU, snd, aN]); rfl) (.chk (by ((try simp only [evE, liE, lO, lU, snd]); (try simp only [cmE])); omega) (.ite (fun h3 => .ret rfl ?_) (fun h3 => ?_))))))))
    · obtain ⟨pb, po, hpe, _⟩ := hp.1 0 _ (row_at rs 0 (by omega))
      subst hpe; ((try simp only [evE, liE, lO, lU, snd]); (try simp only [cmE])); simp [pick_and]; omega
    · ((try simp only [evE, liE, lO, lU, snd] at h3); (try simp only [cmE] at h3))
      unfold sharedE
      rw [if_neg h256, if_pos (bad (by unfold badR; rw [decide_eq_true (by omega)]; rfl))]; rfl
    · ((try simp only [evE, liE, lO, lU, snd] at h3); (try simp only [cmE] at h3))
      have k := c_containsI rs[j].p rs[j].cap rs[j].l (.func (.func n_cognates_Shared_1) #[] #[]) rfl lowB (hr _ (List.getElem_mem hj)) fun x _ => .of0 (by kernel_rfl) (c_low2 x)
      refine .callV k (fun g => (hp.2 _ (List.getElem_mem hj)).mono g.R) (.env (by (try simp only [liE, lO, lU, snd, aN]); rfl) (.ite (fun h4 => .ret rfl ?_) (fun h4 => .again rfl ⟨rs.length - (j + 1), by omega, e, x, y, j + 1, by omega, ?_, rfl, fun i hi hij => ?_⟩)))
      · replace h4 : rs[j].l.any lowB = true := h4
        unfold sharedE
        rw [if_neg h256, if_pos (bad (by unfold badR; rw [h4, Bool.or_true]))]; rfl
      · (simp only [evE, liE, lO, lU, snd, Sh.uss, Sh.us, atAddr, map_add0, List.append_nil]); rw [add_i64 j (by omega)]
      · rcases Nat.lt_or_ge i j with h | h
        · exact hb i hi h
        · have : i = j := by omega
          subst this
          replace h4 : rs[i].l.any lowB = false := h4
          unfold badR; rw [h4, decide_eq_false (by omega)]; rfl
  · have hnb : ¬ rs.any (badR (headL rs)) = true := by
      rw [any_false fun i hi => hb i hi (by omega)]; simp
    refine .ite (fun h3 => .ret rfl ?_) (fun h3 => ?_)
    · replace h3 : (bif decide ((rs.length : Int) = 0) then true else decide ((if b < a then b else a) < 0)) = true := h3
      unfold sharedE
      rw [if_neg h256, if_neg hnb, if_pos ?_]
      · rfl
      · by_cases e0 : (rs.length : Int) = 0
        · exact .inl (by omega)
        · rw [decide_eq_false e0] at h3
          replace h3 : decide ((if b < a then b else a) < 0) = true := h3
          have h3 := of_decide_eq_true h3
          split at h3 <;> omega
    · replace h3 : (bif decide ((rs.length : Int) = 0) then true else decide ((if b < a then b else a) < 0)) = false := h3
      have e0 : (rs.length : Int) ≠ 0 := fun e0 => by rw [decide_eq_true e0] at h3; cases h3
      rw [decide_eq_false e0] at h3
      replace h3 : decide ((if b < a then b else a) < 0) = false := h3
      have h3 := of_decide_eq_false h3
      have hab : 0 ≤ a ∧ 0 ≤ b := by split at h3 <;> omega
      have hh := head_at rs (by omega)
      refine .chk ?_ (.loadS (rs.map IR.v) 0 rs[0].p rs[0].l.length rs[0].cap rfl (row_at rs 0 (by omega)) (fun g => hp.1.mono g.R) (.env (by (try simp only [liE, lO, lU, snd, aN]); rfl) (.chk (by ((try simp only [evE, liE, lO, lU, snd]); (try simp only [cmE])); omega) (.ite (fun h4 => .ret rfl ?_) (fun h4 => .chk (by ((try simp only [evE, liE, lO, lU, snd]); (try simp only [cmE])); omega) ?_)))))
      · obtain ⟨pb, po, hpe, _⟩ := hp.1 0 _ (row_at rs 0 (by omega))
        subst hpe; ((try simp only [evE, liE, lO, lU, snd]); (try simp only [cmE])); simp [pick_and]; omega
      · replace h4 : decide ((if b > a then b else a) ≥ (rs[0].l.length : Int)) = true := h4
        have h4 := of_decide_eq_true h4
        unfold sharedE
        rw [if_neg h256, if_neg hnb, if_pos (by split at h4 <;> omega)]; rfl
      · replace h4 : decide ((if b > a then b else a) ≥ (rs[0].l.length : Int)) = false := h4
        have h4 := of_decide_eq_false h4
        have hlt : a < (headL rs : Int) ∧ b < (headL rs : Int) := by split at h4 <;> omega
        have hsp : sharedE rs a b = (lowest (rs.countP (sameR a.toNat b.toNat) : Nat) (max (rs.countP (bothR a.toNat b.toNat)) 1 : Nat), 0) := by
          unfold sharedE; rw [if_neg h256, if_neg hnb, if_neg (by omega)]
        have hlen : ∀ i (hi : i < rs.length), rs[i].l.length = headL rs := fun i hi => by
          have := hb i hi (by omega)
          unfold badR at this
          simp at this
          exact this.1
        rw [hsp]
        obtain ⟨A, rfl⟩ := Int.eq_ofNat_of_zero_le hab.1
        obtain ⟨B, rfl⟩ := Int.eq_ofNat_of_zero_le hab.2
        simp only [Int.toNat_natCast]
        have hcl : ∀ (f : IR → Bool) i, (rs.take i).countP f ≤ 256 := fun f i => Nat.le_trans List.countP_le_length (by rw [List.length_take]; omega)
        refine .loop (fun n us _ => ∃ i : Nat, i ≤ rs.length ∧ n = rs.length - i ∧ us = [.i ((rs.take i).countP (sameR A B) : Nat), .i ((rs.take i).countP (bothR A B) : Nat), .i i]) rs.length ⟨0, Nat.zero_le _, rfl, rfl⟩ ?_
        rintro n us m2 _ ⟨i, hi, rfl, rfl⟩
        have c1 := hcl (sameR A B) i
        have c2 := hcl (bothR A B) i
        refine .env (by (try simp only [liE, lO, lU, snd, aN]); rfl) (.ite (fun h5 => ?_) (fun h5 => ?_)) <;> ((try simp only [evE, liE, lO, lU, snd] at h5); (try simp only [cmE] at h5))
        · have hi : i < rs.length := by omega
          have hli := hlen i hi
          have s1 := countP_take (sameR A B) rs i hi
          have s2 := countP_take (bothR A B) rs i hi
          have hrow := hp.2 _ (List.getElem_mem hi)
          refine .loadSl (rs.map IR.v) i rs.length rs[i].p rs[i].l.length rs[i].cap hi (row_at rs i hi) (fun g => hp.1.mono g.R) (.env (by (try simp only [liE, lO, lU, snd, aN]); rfl) (.elem1 (.int .i64 (labAt rs[i].l A)) (intsL rs[i].l) A rs[i].l.length rfl rfl (by omega) (fun g => hrow.mono g.R) (intsL_at _ _ (by omega)) (.env (by (try simp only [liE, lO, lU, snd, aN]); rfl) (.ite (fun h6 => ?_) (fun h6 => ?_))))) <;> ((try simp only [evE, liE, lO, lU, snd] at h6); (try simp only [cmE] at h6))
          · have nb : bothR A B rs[i] = false := by unfold bothR; rw [decide_eq_false (by omega)]; rfl
            rw [if_neg (by unfold sameR; rw [nb]; simp)] at s1
            rw [if_neg (by rw [nb]; simp)] at s2
            refine .again rfl ⟨rs.length - (i + 1), by omega, i + 1, by omega, rfl, ?_⟩
            (simp only [evE, liE, lO, lU, snd, Sh.uss, Sh.us, atAddr, map_add0, List.append_nil]); rw [add_i64 i (by omega), s1, s2]; rfl
          · refine .elem1 (.int .i64 (labAt rs[i].l B)) (intsL rs[i].l) B rs[i].l.length rfl rfl (by omega) (fun g => hrow.mono g.R) (intsL_at _ _ (by omega)) (.env (by (try simp only [liE, lO, lU, snd, aN]); rfl) (.ite (fun h7 => ?_) (fun h7 => ?_))) <;> ((try simp only [evE, liE, lO, lU, snd] at h7); (try simp only [cmE] at h7))
            · have nb : bothR A B rs[i] = false := by unfold bothR; rw [decide_eq_false (show ¬ 0 ≤ labAt rs[i].l B by omega), Bool.and_false]
              rw [if_neg (by unfold sameR; rw [nb]; simp)] at s1
              rw [if_neg (by rw [nb]; simp)] at s2
              refine .again rfl ⟨rs.length - (i + 1), by omega, i + 1, by omega, rfl, ?_⟩
              (simp only [evE, liE, lO, lU, snd, Sh.uss, Sh.us, atAddr, map_add0, List.append_nil]); rw [add_i64 i (by omega), s1, s2]; rfl
            · have yb : bothR A B rs[i] = true := by unfold bothR; rw [decide_eq_true (by omega), decide_eq_true (by omega)]; rfl
              rw [if_pos yb] at s2
              refine .elem1 (.int .i64 (labAt rs[i].l A)) (intsL rs[i].l) A rs[i].l.length rfl rfl (by omega) (fun g => hrow.mono g.R) (intsL_at _ _ (by omega)) (.env (by (try simp only [liE, lO, lU, snd, aN]); rfl) (.elem1 (.int .i64 (labAt rs[i].l B)) (intsL rs[i].l) B rs[i].l.length rfl rfl (by omega) (fun g => hrow.mono g.R) (intsL_at _ _ (by omega)) (.env (by (try simp only [liE, lO, lU, snd, aN]); rfl) (.ite (fun h8 => ?_) (fun h8 => ?_))))) <;> ((try simp only [evE, liE, lO, lU, snd] at h8); (try simp only [cmE] at h8))
              · rw [if_pos (by unfold sameR; rw [yb, decide_eq_true h8]; rfl)] at s1
                refine .again rfl ⟨rs.length - (i + 1), by omega, i + 1, by omega, rfl, ?_⟩
                (simp only [evE, liE, lO, lU, snd, Sh.uss, Sh.us, atAddr, map_add0, List.append_nil]); rw [add_i64 i (by omega), s1, s2, addI (by omega) (by omega), addI (by omega) (by omega)]; rfl
              · rw [if_neg (by unfold sameR; rw [yb, decide_eq_false h8]; simp)] at s1
                refine .again rfl ⟨rs.length - (i + 1), by omega, i + 1, by omega, rfl, ?_⟩
                (simp only [evE, liE, lO, lU, snd, Sh.uss, Sh.us, atAddr, map_add0, List.append_nil]); rw [add_i64 i (by omega), s1, s2, addI (by omega) (by omega)]; rfl
        · have : i = rs.length := by omega
          subst this
          rw [List.take_length] at c1 c2 ⊢
          have klo := c_lowest19 (rs.countP (sameR A B) : Nat) (max (rs.countP (bothR A B)) 1 : Nat) (by omega) (by omega)
          refine .callV klo (fun _ => trivial) (.env (by (try simp only [liE, lO, lU, snd, aN]); rfl) (.ret rfl rfl)) (hargs := ?_)
          show [Value.int .i64 ((rs.countP (sameR A B) : Nat) : Int), .int .i64 (if (1 : Int) > ((rs.countP (bothR A B) : Nat) : Int) then 1 else ((rs.countP (bothR A B) : Nat) : Int))] = _
          rw [show (if (1 : Int) > ((rs.countP (bothR A B) : Nat) : Int) then (1 : Int) else ((rs.countP (bothR A B) : Nat) : Int)) = ((max (rs.countP (bothR A B)) 1 : Nat) : Int) by split <;> omega]
end Go.Proofs.YthabfpagilbplaaDoor
/- Chapter 19: lists of lists compared. -/
namespace Go.Proofs.YthabfpagilbplaaDoor
open Go Go.Sy Go.RowKit
end Go.Proofs.YthabfpagilbplaaDoor
