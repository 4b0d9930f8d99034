/- edit.Score, edit.Near and edit.Ratio. -/
import Derived.Test.YtedfogpnmpmggaaDoorGd
set_option linter.unusedSimpArgs false
set_option linter.unusedVariables false
namespace Go.Sy
open Go Go.RowKit
/-! Pairs of numbers in cells. -/
def pcells (l : List (Int × Int)) : List Value := l.flatMap fun x => [.int .i64 x.1, .int .i64 x.2]
theorem pcells_len (l : List (Int × Int)) : (pcells l).length = l.length * 2 := by
  induction l with
  | nil => rfl
  | cons s w ih => simp only [pcells, List.flatMap_cons, List.length_append, List.length_cons] at *; rw [ih]; simp; omega
theorem pcells_append (a b : List (Int × Int)) : pcells (a ++ b) = pcells a ++ pcells b := List.flatMap_append ..
theorem pcells_at (w : List (Int × Int)) (j : Nat) (h : j < w.length) : (pcells w)[j * 2]? = some (.int .i64 w[j].1) ∧ (pcells w)[j * 2 + 1]? = some (.int .i64 w[j].2) := by
  induction w generalizing j with
  | nil => simp at h
  | cons s w ih =>
    cases j with
    | zero => exact ⟨rfl, rfl⟩
    | succ j =>
      have := ih j (by simpa using h)
      simp only [pcells, List.flatMap_cons, List.cons_append, List.nil_append] at *
      rw [show (j + 1) * 2 = j * 2 + 2 by omega, show j * 2 + 2 + 1 = (j * 2 + 1) + 2 by omega]
      simpa using this
section
variable {P : Program} {c : Cx} {L : List Nat} {ρ : Env} {blks : List Blk} {m : Mem} {R : Value → HW → Prop} {Dn : Nat → List U → HW → Prop} {A : List (List U → HW → Prop)}
theorem DenM.loadP {i : Nat} {I len : IT} {k : Tree} (w : List (Int × Int)) (j : Nat) (hj : j < w.length) (hw : Good c L m → Cells (vw c L ρ blks m) (ρ.ptr i) (pcells w)) (hk : DenM P R Dn k L (ρ ++ [.i w[j].1, .i w[j].2]) c m A) (hI : I.eval ρ = (j : Int) := by rfl) (hn : len.eval ρ = (w.length : Int) := by rfl) :
    DenM P R Dn (.chk (.pick (.cmp .geq I (.lit 0)) (.pick (.cmp .lss I len) (.some i) (.lit false)) (.lit false)) (.load i (.off I 2 (.lit 0)) [(.int .i64), (.int .i64)] blks k)) L ρ c m A := by
  have h := pcells_at w j hj
  refine .elem [.i w[j].1, .i w[j].2] (pcells w) j w.length hI hn hj rfl hw (by rw [pcells_len]; omega) (fun q v hv => ?_) hk
  simp only [Sh.freshs, Sh.fresh, SV.dens, SV.den, IT.eval, int_at, env_int_at1] at hv
  match q, hv with
  | 0, hv => simp at hv; rw [← hv]; exact h.1
  | 1, hv => simp at hv; rw [← hv]; exact h.2
  | q + 2, hv => simp at hv
end
def dC (ws : List Int) (gap : Int) : Snd → Snd → Int := fun x y => (distC x y ws gap).1
def scoreE (ws : List Int) (gap : Int) (a b : List Snd) (l : List (Int × Int)) : Int × Int :=
  if checkE ws gap [a, b] ≠ 0 then (0, checkE ws gap [a, b]) else match scoreA (dC ws gap) gap a b l 0 0 with | some s => (s, 0) | none => (0, 8)
theorem checkE_two {ws : List Int} {gap : Int} {a b : List Snd} (h : checkE ws gap [a, b] = 0) : checkC ws gap = 0 ∧ (a.length ≤ 32 ∧ ∀ s ∈ a, valid s = true) ∧ b.length ≤ 32 ∧ ∀ s ∈ b, valid s = true := by
  unfold checkE at h
  split at h
  · omega
  · have := checkL_two h
    exact ⟨by omega, checkW_zero this.1, checkW_zero this.2⟩
section
variable {d : Snd → Snd → Int} {g : Int} {a b : List Snd} {i j : Nat} {x : Int × Int}
theorem stepQ_both (hi : i < a.length) (hj : j < b.length) (h1 : x.1 = i) (h2 : x.2 = j) : stepQ d g a b i j x = some (i + 1, j + 1, d a[i] b[j]) := by
  unfold stepQ
  rw [List.getElem?_eq_getElem hi, List.getElem?_eq_getElem hj]
  simp only
  rw [if_pos (Prod.ext h1 h2)]
theorem stepQ_one (hi : i < a.length) (h1 : x.1 = i) (h2 : x.2 = -1) : stepQ d g a b i j x = some (i + 1, j, g) := by
  have hx : x = ((i : Int), -1) := Prod.ext h1 h2
  unfold stepQ
  rw [List.getElem?_eq_getElem hi]
  cases hb : b[j]? with
  | none => simp only; rw [if_pos hx]
  | some v => simp only; rw [if_neg (by rw [hx]; simp), if_pos hx]
theorem stepQ_two (hj : j < b.length) (h1 : x.1 = -1) (h2 : x.2 = j) : stepQ d g a b i j x = some (i, j + 1, g) := by
  have hx : x = (-1, (j : Int)) := Prod.ext h1 h2
  unfold stepQ
  rw [List.getElem?_eq_getElem hj]
  cases ha : a[i]? with
  | none => simp only; rw [if_pos hx]
  | some v => simp only; rw [if_neg (by rw [hx]; simp), if_neg (by rw [hx]; simp), if_pos hx]
theorem stepQ_none (h1 : ¬ ((i < a.length ∧ x.1 = i) ∧ (j < b.length ∧ x.2 = j))) (h2 : ¬ ((i < a.length ∧ x.1 = i) ∧ x.2 = -1)) (h3 : ¬ ((j < b.length ∧ x.2 = j) ∧ x.1 = -1)) : stepQ d g a b i j x = none := by
  unfold stepQ
  rcases Nat.lt_or_ge i a.length with hi | hi <;> rcases Nat.lt_or_ge j b.length with hj | hj
  · rw [List.getElem?_eq_getElem hi, List.getElem?_eq_getElem hj]
    simp only
    rw [if_neg (fun e => h1 (by rw [e]; exact ⟨⟨hi, rfl⟩, hj, rfl⟩)), if_neg (fun e => h2 (by rw [e]; exact ⟨⟨hi, rfl⟩, rfl⟩)), if_neg (fun e => h3 (by rw [e]; exact ⟨⟨hj, rfl⟩, rfl⟩))]
  · rw [List.getElem?_eq_getElem hi, List.getElem?_eq_none hj]
    simp only
    rw [if_neg (fun e => h2 (by rw [e]; exact ⟨⟨hi, rfl⟩, rfl⟩))]
  · rw [List.getElem?_eq_none hi, List.getElem?_eq_getElem hj]
    simp only
    rw [if_neg (fun e => h3 (by rw [e]; exact ⟨⟨hj, rfl⟩, rfl⟩))]
  · rw [List.getElem?_eq_none hi, List.getElem?_eq_none hj]
end
theorem scoreA_cons (d : Snd → Snd → Int) (g : Int) (a b : List Snd) (x : Int × Int) (l : List (Int × Int)) (i j : Nat) : scoreA d g a b (x :: l) i j = (stepQ d g a b i j x).bind fun s => (scoreA d g a b l s.1 s.2.1).map (s.2.2 + ·) := rfl
theorem map_map_add (o : Option Int) (s t : Int) : (o.map (t + ·)).map (s + ·) = o.map (s + t + ·) := by cases o <;> simp [Int.add_assoc]
/-! The nearest. -/
def nearGo : Nat → Nat → Int → List Int → Nat × Int
  | _, p, best, [] => (p, best)
  | k, p, best, d :: ds => if k = 0 ∨ d < best then nearGo (k + 1) k d ds else nearGo (k + 1) p best ds
def nearE (ws : List Int) (gap : Int) (w : List Snd) (l : List (List Snd)) : Nat × Int × Int :=
  if checkE ws gap [w] ≠ 0 then (0, 0, checkE ws gap [w]) else if l.length > 256 then (0, 0, 12) else if checkE ws gap l ≠ 0 then (0, 0, checkE ws gap l) else if l.length = 0 then (0, 0, 5) else
    let r := nearGo 0 0 0 (l.map fun x => rst (dC ws gap) gap w x)
    (r.1, r.2, 0)
theorem checkL_zero {l : List (List Snd)} (h : checkL l = 0) : ∀ x ∈ l, checkW x = 0 := by
  induction l with
  | nil => simp
  | cons w l ih =>
    unfold checkL at h
    split at h
    · omega
    · intro x hx
      rcases List.mem_cons.1 hx with rfl | hx
      · omega
      · exact ih h x hx
theorem checkE_of {ws : List Int} {gap : Int} {l : List (List Snd)} (h : checkE ws gap l = 0) : checkC ws gap = 0 ∧ ∀ x ∈ l, checkW x = 0 := by
  unfold checkE at h
  split at h
  · omega
  · exact ⟨by omega, checkL_zero h⟩
theorem checkE_mk {ws : List Int} {gap : Int} {l : List (List Snd)} (h : checkC ws gap = 0) (hl : ∀ x ∈ l, checkW x = 0) : checkE ws gap l = 0 := by
  unfold checkE
  rw [if_neg (by simp [h])]
  induction l with
  | nil => rfl
  | cons w l ih =>
    unfold checkL
    rw [if_neg (by simp [hl w (by simp)])]
    exact ih fun x hx => hl x (by simp [hx])
theorem nearGo_drop (k p : Nat) (best : Int) (ds : List Int) (h : k < ds.length) : nearGo k p best (ds.drop k) = if k = 0 ∨ ds[k] < best then nearGo (k + 1) k ds[k] (ds.drop (k + 1)) else nearGo (k + 1) p best (ds.drop (k + 1)) := by
  rw [List.drop_eq_getElem_cons h, nearGo]
/-! Lowest terms. -/
def gcdI (n d : Int) : Int := (Nat.gcd n.toNat d.toNat : Nat)
def lowest (n d : Int) : Int × Int := (n.tdiv (gcdI n d), d.tdiv (gcdI n d))
def ratioE (ws : List Int) (gap : Int) (a b : List Snd) : (Int × Int) × Int :=
  if (distE0 ws gap a b).2 ≠ 0 then ((0, 0), (distE0 ws gap a b).2) else if gap * ((a.length : Int) + b.length) = 0 then ((0, 1), 0) else (lowest (distE0 ws gap a b).1 (gap * ((a.length : Int) + b.length)), 0)
where distE0 (ws : List Int) (gap : Int) (a b : List Snd) : Int × Int := if checkE ws gap [a, b] ≠ 0 then (0, checkE ws gap [a, b]) else (rst (dC ws gap) gap a b, 0)
theorem gcdI_step {x y : Int} (hx : 0 ≤ x) (hy : 0 < y) : gcdI y (x.tmod y) = gcdI x y := by
  unfold gcdI
  rw [Int.tmod_eq_emod_of_nonneg hx]
  have : (x % y).toNat = x.toNat % y.toNat := by
    obtain ⟨n, rfl⟩ := Int.eq_ofNat_of_zero_le hx
    obtain ⟨k, rfl⟩ := Int.eq_ofNat_of_zero_le (Int.le_of_lt hy)
    exact (congrArg Int.toNat (Int.natCast_emod n k).symm).trans (Int.toNat_natCast _)
  rw [this, Nat.gcd_comm y.toNat, ← Nat.gcd_rec y.toNat x.toNat, Nat.gcd_comm]
theorem gcdI_zero {x : Int} (hx : 0 ≤ x) : gcdI x 0 = x := by unfold gcdI; simp; omega
end Go.Sy
namespace Go.Proofs.YtedfogpnmpmggaaDoor
open Go Go.Sy Go.RowKit
theorem distE_eq (ws : List Int) (gap : Int) (a b : List Snd) : distE ws gap a b = ratioE.distE0 ws gap a b := rfl
set_option maxHeartbeats 1000000 in
theorem c_editScore (A B : WD) (ql : Option Addr) (cl : Nat) (l : List (Int × Int)) (pc : Option Addr) (cc : Nat) (ws : List Int) (gap : Int) (ha : Wok A.w) (hb : Wok B.w) (hll : l.length < 2 ^ 62) :
    RetP Tryd.prog n_edit_Score [A.v, B.v, slv ql l.length cl, costs pc ws.length cc gap] (fun R => WordAt R A.p A.w ∧ WordAt R B.p B.w ∧ Cells R ql (pcells l) ∧ CostsAt R pc ws ∧ TabOk R) (.tuple #[.int .i64 (scoreE ws gap A.w B.w l).1, .int .i64 (scoreE ws gap A.w B.w l).2]) := by
  obtain ⟨pa, ca, a⟩ := A
  obtain ⟨pb, cb, b⟩ := B
  simp only [] at ha hb
  refine Fn.of S_edit_Score mx [.p pa, .i a.length, .i ca, .p pb, .i b.length, .i cb, .p ql, .i l.length, .i cl, .p pc, .i ws.length, .i cc, .i gap] rfl rfl fun c hp => .alloc fun b0 => .alloc fun b1 => ?_
  obtain ⟨hp1, hp2, hp5, hp3, hp4⟩ := hp
  refine .callV (c_editCheck pc cc ws gap (some ⟨b1, 0, none⟩) 2 [⟨pa, ca, a⟩, ⟨pb, cb, b⟩] (by simp [ha, hb]) (by simp)) (fun g => ⟨hp3.mono g.R, fun i x hx => ⟨b1, 0, rfl, ?_⟩, ?_⟩) (.ite (fun h1 => .ret rfl ?_) (fun h1 => ?_))
  · rw [g.at (j := 1) rfl rfl, Nat.zero_add]; exact hx
  · simp only [List.mem_cons, List.not_mem_nil, or_false]
    rintro x (rfl | rfl)
    · exact hp1.mono g.R
    · exact hp2.mono g.R
  · ((try simp only [BT.eval, IT.eval, SV.den, SV.dens, Env.int, Env.bool, Env.val, Env.ptr, letsOf, letU, snd, List.flatMap_cons, List.flatMap_nil, List.cons_append, List.nil_append, List.append_assoc, List.getElem?_cons_zero, List.getElem?_cons_succ] at h1); (try simp only [cm, cond_true, cond_false, pick_or, pick_and, Bool.or_eq_true, Bool.and_eq_true, Bool.or_eq_false_iff, Bool.and_eq_false_iff, Bool.not_eq_true', Bool.not_eq_false', decide_eq_true_eq, decide_eq_false_iff_not, beq_iff_eq, beq_eq_false_iff_ne, bne_iff_ne, bne_eq_false_iff_eq, ge_iff_le, gt_iff_lt, Int.not_lt, Int.not_le] at h1))
    replace h1 : checkE ws gap [a, b] ≠ 0 := h1
    unfold scoreE
    rw [if_pos h1]; ((try simp only [BT.eval, IT.eval, SV.den, SV.dens, Env.int, Env.bool, Env.val, Env.ptr, letsOf, letU, snd, List.flatMap_cons, List.flatMap_nil, List.cons_append, List.nil_append, List.append_assoc, List.getElem?_cons_zero, List.getElem?_cons_succ]); (try simp only [cm, cond_true, cond_false, pick_or, pick_and, Bool.or_eq_true, Bool.and_eq_true, Bool.or_eq_false_iff, Bool.and_eq_false_iff, Bool.not_eq_true', Bool.not_eq_false', decide_eq_true_eq, decide_eq_false_iff_not, beq_iff_eq, beq_eq_false_iff_ne, bne_iff_ne, bne_eq_false_iff_eq, ge_iff_le, gt_iff_lt, Int.not_lt, Int.not_le])); rfl
  ((try simp only [BT.eval, IT.eval, SV.den, SV.dens, Env.int, Env.bool, Env.val, Env.ptr, letsOf, letU, snd, List.flatMap_cons, List.flatMap_nil, List.cons_append, List.nil_append, List.append_assoc, List.getElem?_cons_zero, List.getElem?_cons_succ] at h1); (try simp only [cm, cond_true, cond_false, pick_or, pick_and, Bool.or_eq_true, Bool.and_eq_true, Bool.or_eq_false_iff, Bool.and_eq_false_iff, Bool.not_eq_true', Bool.not_eq_false', decide_eq_true_eq, decide_eq_false_iff_not, beq_iff_eq, beq_eq_false_iff_ne, bne_iff_ne, bne_eq_false_iff_eq, ge_iff_le, gt_iff_lt, Int.not_lt, Int.not_le] at h1))
  replace h1 : checkE ws gap [a, b] = 0 := h1
  obtain ⟨hc, ⟨la, va⟩, lb, vb⟩ := checkE_two h1
  rw [show checkE ws gap (List.map (fun x : WD => x.w) [⟨pa, ca, a⟩, ⟨pb, cb, b⟩]) = 0 from h1]
  have hspec : scoreE ws gap a b l = match scoreA (dC ws gap) gap a b l 0 0 with | some s => (s, 0) | none => (0, 8) := by unfold scoreE; rw [if_neg (by simp [h1])]
  have hg := (checkC_zero hc).2
  refine .env (by (try simp only [letsOf, letU, snd, List.flatMap_cons, List.flatMap_nil, List.cons_append, List.nil_append, List.append_assoc, List.append_nil]); rfl) (.chk (by ((try simp only [BT.eval, IT.eval, SV.den, SV.dens, Env.int, Env.bool, Env.val, Env.ptr, letsOf, letU, snd, List.flatMap_cons, List.flatMap_nil, List.cons_append, List.nil_append, List.append_assoc, List.getElem?_cons_zero, List.getElem?_cons_succ]); (try simp only [cm, cond_true, cond_false, pick_or, pick_and, Bool.or_eq_true, Bool.and_eq_true, Bool.or_eq_false_iff, Bool.and_eq_false_iff, Bool.not_eq_true', Bool.not_eq_false', decide_eq_true_eq, decide_eq_false_iff_not, beq_iff_eq, beq_eq_false_iff_ne, bne_iff_ne, bne_eq_false_iff_eq, ge_iff_le, gt_iff_lt, Int.not_lt, Int.not_le])); omega) (.loop (fun n us _ => ∃ (x y : Int) (i j : Nat) (s : Int) (k : Nat), us = [.i x, .i y, .i i, .i j, .i s, .i k] ∧ n + k = l.length ∧ i ≤ a.length ∧ j ≤ b.length ∧ 0 ≤ s ∧ s ≤ 25769803776 * ((i : Int) + j) ∧ scoreA (dC ws gap) gap a b l 0 0 = (scoreA (dC ws gap) gap a b (l.drop k) i j).map (s + ·)) l.length
    ⟨0, 0, 0, 0, 0, 0, rfl, rfl, Nat.zero_le _, Nat.zero_le _, by omega, by omega, by cases h : scoreA (dC ws gap) gap a b l 0 0 <;> simp [h]⟩ ?_))
  rintro n _ m _ ⟨x, y, i, j, s, k, rfl, hn, hi, hj, s0, s1, hs⟩
  refine .ite (fun h2 => ?_) (fun h2 => ?_) <;> ((try simp only [BT.eval, IT.eval, SV.den, SV.dens, Env.int, Env.bool, Env.val, Env.ptr, letsOf, letU, snd, List.flatMap_cons, List.flatMap_nil, List.cons_append, List.nil_append, List.append_assoc, List.getElem?_cons_zero, List.getElem?_cons_succ] at h2); (try simp only [cm, cond_true, cond_false, pick_or, pick_and, Bool.or_eq_true, Bool.and_eq_true, Bool.or_eq_false_iff, Bool.and_eq_false_iff, Bool.not_eq_true', Bool.not_eq_false', decide_eq_true_eq, decide_eq_false_iff_not, beq_iff_eq, beq_eq_false_iff_ne, bne_iff_ne, bne_eq_false_iff_eq, ge_iff_le, gt_iff_lt, Int.not_lt, Int.not_le] at h2))
  · have hk : k < l.length := by omega
    rw [List.drop_eq_getElem_cons hk, scoreA_cons] at hs
    refine .loadP l k hk (fun g => hp5.mono g.R) (.alloc fun _ => .chk (by ((try simp only [BT.eval, IT.eval, SV.den, SV.dens, Env.int, Env.bool, Env.val, Env.ptr, letsOf, letU, snd, List.flatMap_cons, List.flatMap_nil, List.cons_append, List.nil_append, List.append_assoc, List.getElem?_cons_zero, List.getElem?_cons_succ]); (try simp only [cm, cond_true, cond_false, pick_or, pick_and, Bool.or_eq_true, Bool.and_eq_true, Bool.or_eq_false_iff, Bool.and_eq_false_iff, Bool.not_eq_true', Bool.not_eq_false', decide_eq_true_eq, decide_eq_false_iff_not, beq_iff_eq, beq_eq_false_iff_ne, bne_iff_ne, bne_eq_false_iff_eq, ge_iff_le, gt_iff_lt, Int.not_lt, Int.not_le])); omega) (.chk (by ((try simp only [BT.eval, IT.eval, SV.den, SV.dens, Env.int, Env.bool, Env.val, Env.ptr, letsOf, letU, snd, List.flatMap_cons, List.flatMap_nil, List.cons_append, List.nil_append, List.append_assoc, List.getElem?_cons_zero, List.getElem?_cons_succ]); (try simp only [cm, cond_true, cond_false, pick_or, pick_and, Bool.or_eq_true, Bool.and_eq_true, Bool.or_eq_false_iff, Bool.and_eq_false_iff, Bool.not_eq_true', Bool.not_eq_false', decide_eq_true_eq, decide_eq_false_iff_not, beq_iff_eq, beq_eq_false_iff_ne, bne_iff_ne, bne_eq_false_iff_eq, ge_iff_le, gt_iff_lt, Int.not_lt, Int.not_le])); omega) ?_))
    have ei := add_i64 i (by omega)
    have ej := add_i64 j (by omega)
    have ek := add_i64 k (by omega)
    refine .ite (fun h3 => ?_) (fun h3 => .ite (fun h4 => ?_) (fun h4 => .ite (fun h5 => ?_) (fun h5 => .ret rfl ?_))) <;> ((try simp only [BT.eval, IT.eval, SV.den, SV.dens, Env.int, Env.bool, Env.val, Env.ptr, letsOf, letU, snd, List.flatMap_cons, List.flatMap_nil, List.cons_append, List.nil_append, List.append_assoc, List.getElem?_cons_zero, List.getElem?_cons_succ] at h3); (try simp only [cm, cond_true, cond_false, pick_or, pick_and, Bool.or_eq_true, Bool.and_eq_true, Bool.or_eq_false_iff, Bool.and_eq_false_iff, Bool.not_eq_true', Bool.not_eq_false', decide_eq_true_eq, decide_eq_false_iff_not, beq_iff_eq, beq_eq_false_iff_ne, bne_iff_ne, bne_eq_false_iff_eq, ge_iff_le, gt_iff_lt, Int.not_lt, Int.not_le] at h3))
    · obtain ⟨⟨q1, q2⟩, q3, q4⟩ := h3
      have hia : i < a.length := by omega
      have hjb : j < b.length := by omega
      rw [stepQ_both hia hjb q2 q4, Option.bind_some, map_map_add] at hs
      have hdp := distC_pos (x := a[i]) (y := b[j]) hc
      refine .loadW a i hia (fun g => hp1.mono g.R) (.loadW b j hjb (fun g => hp2.mono g.R) (.callV (c_dist a[i] b[j] pc cc ws gap (ha.at hia) (hb.at hjb)) (fun g => ⟨hp3.mono g.R, hp4.mono g.R⟩) (.again rfl ⟨n - 1, by omega, x, y, i + 1, j + 1, s + (distC a[i] b[j] ws gap).1, k + 1, ?_, by omega, by omega, by omega, by omega, by omega, hs⟩)))
      (simp only [letsOf, letU, snd, List.flatMap_cons, List.flatMap_nil, Sh.uss, Sh.us, IT.eval, BT.eval, SV.den, SV.dens, Env.int, Env.bool, Env.val, Env.ptr, atAddr, map_add0, List.append_assoc, List.cons_append, List.nil_append, List.append_nil, List.getElem?_cons_zero, List.getElem?_cons_succ]); rw [ei, ej, ek, addI (by omega) (by omega)]
    · ((try simp only [BT.eval, IT.eval, SV.den, SV.dens, Env.int, Env.bool, Env.val, Env.ptr, letsOf, letU, snd, List.flatMap_cons, List.flatMap_nil, List.cons_append, List.nil_append, List.append_assoc, List.getElem?_cons_zero, List.getElem?_cons_succ] at h4); (try simp only [cm, cond_true, cond_false, pick_or, pick_and, Bool.or_eq_true, Bool.and_eq_true, Bool.or_eq_false_iff, Bool.and_eq_false_iff, Bool.not_eq_true', Bool.not_eq_false', decide_eq_true_eq, decide_eq_false_iff_not, beq_iff_eq, beq_eq_false_iff_ne, bne_iff_ne, bne_eq_false_iff_eq, ge_iff_le, gt_iff_lt, Int.not_lt, Int.not_le] at h4))
      obtain ⟨⟨q1, q2⟩, q3⟩ := h4
      have hia : i < a.length := by omega
      rw [stepQ_one hia q2 q3, Option.bind_some, map_map_add] at hs
      refine .again rfl ⟨n - 1, by omega, x, y, i + 1, j, s + gap, k + 1, ?_, by omega, by omega, by omega, by omega, by omega, hs⟩
      (simp only [letsOf, letU, snd, List.flatMap_cons, List.flatMap_nil, Sh.uss, Sh.us, IT.eval, BT.eval, SV.den, SV.dens, Env.int, Env.bool, Env.val, Env.ptr, atAddr, map_add0, List.append_assoc, List.cons_append, List.nil_append, List.append_nil, List.getElem?_cons_zero, List.getElem?_cons_succ]); rw [ei, ek, addI (by omega) (by omega)]
    · ((try simp only [BT.eval, IT.eval, SV.den, SV.dens, Env.int, Env.bool, Env.val, Env.ptr, letsOf, letU, snd, List.flatMap_cons, List.flatMap_nil, List.cons_append, List.nil_append, List.append_assoc, List.getElem?_cons_zero, List.getElem?_cons_succ] at h5); (try simp only [cm, cond_true, cond_false, pick_or, pick_and, Bool.or_eq_true, Bool.and_eq_true, Bool.or_eq_false_iff, Bool.and_eq_false_iff, Bool.not_eq_true', Bool.not_eq_false', decide_eq_true_eq, decide_eq_false_iff_not, beq_iff_eq, beq_eq_false_iff_ne, bne_iff_ne, bne_eq_false_iff_eq, ge_iff_le, gt_iff_lt, Int.not_lt, Int.not_le] at h5))
      obtain ⟨⟨q1, q2⟩, q3⟩ := h5
      have hjb : j < b.length := by omega
      rw [stepQ_two hjb q3 q2, Option.bind_some, map_map_add] at hs
      refine .again rfl ⟨n - 1, by omega, x, y, i, j + 1, s + gap, k + 1, ?_, by omega, by omega, by omega, by omega, by omega, hs⟩
      (simp only [letsOf, letU, snd, List.flatMap_cons, List.flatMap_nil, Sh.uss, Sh.us, IT.eval, BT.eval, SV.den, SV.dens, Env.int, Env.bool, Env.val, Env.ptr, atAddr, map_add0, List.append_assoc, List.cons_append, List.nil_append, List.append_nil, List.getElem?_cons_zero, List.getElem?_cons_succ]); rw [ej, ek, addI (by omega) (by omega)]
    · ((try simp only [BT.eval, IT.eval, SV.den, SV.dens, Env.int, Env.bool, Env.val, Env.ptr, letsOf, letU, snd, List.flatMap_cons, List.flatMap_nil, List.cons_append, List.nil_append, List.append_assoc, List.getElem?_cons_zero, List.getElem?_cons_succ] at h4); (try simp only [cm, cond_true, cond_false, pick_or, pick_and, Bool.or_eq_true, Bool.and_eq_true, Bool.or_eq_false_iff, Bool.and_eq_false_iff, Bool.not_eq_true', Bool.not_eq_false', decide_eq_true_eq, decide_eq_false_iff_not, beq_iff_eq, beq_eq_false_iff_ne, bne_iff_ne, bne_eq_false_iff_eq, ge_iff_le, gt_iff_lt, Int.not_lt, Int.not_le] at h4))
      ((try simp only [BT.eval, IT.eval, SV.den, SV.dens, Env.int, Env.bool, Env.val, Env.ptr, letsOf, letU, snd, List.flatMap_cons, List.flatMap_nil, List.cons_append, List.nil_append, List.append_assoc, List.getElem?_cons_zero, List.getElem?_cons_succ] at h5); (try simp only [cm, cond_true, cond_false, pick_or, pick_and, Bool.or_eq_true, Bool.and_eq_true, Bool.or_eq_false_iff, Bool.and_eq_false_iff, Bool.not_eq_true', Bool.not_eq_false', decide_eq_true_eq, decide_eq_false_iff_not, beq_iff_eq, beq_eq_false_iff_ne, bne_iff_ne, bne_eq_false_iff_eq, ge_iff_le, gt_iff_lt, Int.not_lt, Int.not_le] at h5))
      rw [stepQ_none (by
        rintro ⟨⟨q1, q2⟩, q3, q4⟩
        rcases h3 with (h | h) | (h | h)
        · omega
        · exact h q2
        · omega
        · exact h q4) (by
        rintro ⟨⟨q1, q2⟩, q3⟩
        rcases h4 with (h | h) | h
        · omega
        · exact h q2
        · exact h q3) (by
        rintro ⟨⟨q1, q2⟩, q3⟩
        rcases h5 with (h | h) | h
        · omega
        · exact h q2
        · exact h q3)] at hs
      rw [hspec, hs]; ((try simp only [BT.eval, IT.eval, SV.den, SV.dens, Env.int, Env.bool, Env.val, Env.ptr, letsOf, letU, snd, List.flatMap_cons, List.flatMap_nil, List.cons_append, List.nil_append, List.append_assoc, List.getElem?_cons_zero, List.getElem?_cons_succ]); (try simp only [cm, cond_true, cond_false, pick_or, pick_and, Bool.or_eq_true, Bool.and_eq_true, Bool.or_eq_false_iff, Bool.and_eq_false_iff, Bool.not_eq_true', Bool.not_eq_false', decide_eq_true_eq, decide_eq_false_iff_not, beq_iff_eq, beq_eq_false_iff_ne, bne_iff_ne, bne_eq_false_iff_eq, ge_iff_le, gt_iff_lt, Int.not_lt, Int.not_le])); rfl
  · rw [List.drop_of_length_le (by omega), scoreA] at hs
    refine .chk (by ((try simp only [BT.eval, IT.eval, SV.den, SV.dens, Env.int, Env.bool, Env.val, Env.ptr, letsOf, letU, snd, List.flatMap_cons, List.flatMap_nil, List.cons_append, List.nil_append, List.append_assoc, List.getElem?_cons_zero, List.getElem?_cons_succ]); (try simp only [cm, cond_true, cond_false, pick_or, pick_and, Bool.or_eq_true, Bool.and_eq_true, Bool.or_eq_false_iff, Bool.and_eq_false_iff, Bool.not_eq_true', Bool.not_eq_false', decide_eq_true_eq, decide_eq_false_iff_not, beq_iff_eq, beq_eq_false_iff_ne, bne_iff_ne, bne_eq_false_iff_eq, ge_iff_le, gt_iff_lt, Int.not_lt, Int.not_le])); omega) (.ite (fun h3 => .ret rfl ?_) (fun h3 => .chk (by ((try simp only [BT.eval, IT.eval, SV.den, SV.dens, Env.int, Env.bool, Env.val, Env.ptr, letsOf, letU, snd, List.flatMap_cons, List.flatMap_nil, List.cons_append, List.nil_append, List.append_assoc, List.getElem?_cons_zero, List.getElem?_cons_succ]); (try simp only [cm, cond_true, cond_false, pick_or, pick_and, Bool.or_eq_true, Bool.and_eq_true, Bool.or_eq_false_iff, Bool.and_eq_false_iff, Bool.not_eq_true', Bool.not_eq_false', decide_eq_true_eq, decide_eq_false_iff_not, beq_iff_eq, beq_eq_false_iff_ne, bne_iff_ne, bne_eq_false_iff_eq, ge_iff_le, gt_iff_lt, Int.not_lt, Int.not_le])); omega) (.ite (fun h4 => .ret rfl ?_) (fun h4 => .ret rfl ?_)))) <;> ((try simp only [BT.eval, IT.eval, SV.den, SV.dens, Env.int, Env.bool, Env.val, Env.ptr, letsOf, letU, snd, List.flatMap_cons, List.flatMap_nil, List.cons_append, List.nil_append, List.append_assoc, List.getElem?_cons_zero, List.getElem?_cons_succ] at h3); (try simp only [cm, cond_true, cond_false, pick_or, pick_and, Bool.or_eq_true, Bool.and_eq_true, Bool.or_eq_false_iff, Bool.and_eq_false_iff, Bool.not_eq_true', Bool.not_eq_false', decide_eq_true_eq, decide_eq_false_iff_not, beq_iff_eq, beq_eq_false_iff_ne, bne_iff_ne, bne_eq_false_iff_eq, ge_iff_le, gt_iff_lt, Int.not_lt, Int.not_le] at h3))
    · rw [if_neg (by omega)] at hs
      rw [hspec, hs]; ((try simp only [BT.eval, IT.eval, SV.den, SV.dens, Env.int, Env.bool, Env.val, Env.ptr, letsOf, letU, snd, List.flatMap_cons, List.flatMap_nil, List.cons_append, List.nil_append, List.append_assoc, List.getElem?_cons_zero, List.getElem?_cons_succ]); (try simp only [cm, cond_true, cond_false, pick_or, pick_and, Bool.or_eq_true, Bool.and_eq_true, Bool.or_eq_false_iff, Bool.and_eq_false_iff, Bool.not_eq_true', Bool.not_eq_false', decide_eq_true_eq, decide_eq_false_iff_not, beq_iff_eq, beq_eq_false_iff_ne, bne_iff_ne, bne_eq_false_iff_eq, ge_iff_le, gt_iff_lt, Int.not_lt, Int.not_le])); rfl
    · ((try simp only [BT.eval, IT.eval, SV.den, SV.dens, Env.int, Env.bool, Env.val, Env.ptr, letsOf, letU, snd, List.flatMap_cons, List.flatMap_nil, List.cons_append, List.nil_append, List.append_assoc, List.getElem?_cons_zero, List.getElem?_cons_succ] at h4); (try simp only [cm, cond_true, cond_false, pick_or, pick_and, Bool.or_eq_true, Bool.and_eq_true, Bool.or_eq_false_iff, Bool.and_eq_false_iff, Bool.not_eq_true', Bool.not_eq_false', decide_eq_true_eq, decide_eq_false_iff_not, beq_iff_eq, beq_eq_false_iff_ne, bne_iff_ne, bne_eq_false_iff_eq, ge_iff_le, gt_iff_lt, Int.not_lt, Int.not_le] at h4))
      rw [if_neg (by omega)] at hs
      rw [hspec, hs]; ((try simp only [BT.eval, IT.eval, SV.den, SV.dens, Env.int, Env.bool, Env.val, Env.ptr, letsOf, letU, snd, List.flatMap_cons, List.flatMap_nil, List.cons_append, List.nil_append, List.append_assoc, List.getElem?_cons_zero, List.getElem?_cons_succ]); (try simp only [cm, cond_true, cond_false, pick_or, pick_and, Bool.or_eq_true, Bool.and_eq_true, Bool.or_eq_false_iff, Bool.and_eq_false_iff, Bool.not_eq_true', Bool.not_eq_false', decide_eq_true_eq, decide_eq_false_iff_not, beq_iff_eq, beq_eq_false_iff_ne, bne_iff_ne, bne_eq_false_iff_eq, ge_iff_le, gt_iff_lt, Int.not_lt, Int.not_le])); rfl
    · ((try simp only [BT.eval, IT.eval, SV.den, SV.dens, Env.int, Env.bool, Env.val, Env.ptr, letsOf, letU, snd, List.flatMap_cons, List.flatMap_nil, List.cons_append, List.nil_append, List.append_assoc, List.getElem?_cons_zero, List.getElem?_cons_succ] at h4); (try simp only [cm, cond_true, cond_false, pick_or, pick_and, Bool.or_eq_true, Bool.and_eq_true, Bool.or_eq_false_iff, Bool.and_eq_false_iff, Bool.not_eq_true', Bool.not_eq_false', decide_eq_true_eq, decide_eq_false_iff_not, beq_iff_eq, beq_eq_false_iff_ne, bne_iff_ne, bne_eq_false_iff_eq, ge_iff_le, gt_iff_lt, Int.not_lt, Int.not_le] at h4))
      rw [if_pos (by omega)] at hs
      rw [hspec, hs]; ((try simp only [BT.eval, IT.eval, SV.den, SV.dens, Env.int, Env.bool, Env.val, Env.ptr, letsOf, letU, snd, List.flatMap_cons, List.flatMap_nil, List.cons_append, List.nil_append, List.append_assoc, List.getElem?_cons_zero, List.getElem?_cons_succ]); (try simp only [cm, cond_true, cond_false, pick_or, pick_and, Bool.or_eq_true, Bool.and_eq_true, Bool.or_eq_false_iff, Bool.and_eq_false_iff, Bool.not_eq_true', Bool.not_eq_false', decide_eq_true_eq, decide_eq_false_iff_not, beq_iff_eq, beq_eq_false_iff_ne, bne_iff_ne, bne_eq_false_iff_eq, ge_iff_le, gt_iff_lt, Int.not_lt, Int.not_le])); simp
theorem c_editNear (W : WD) (ql : Option Addr) (cl : Nat) (l : List WD) (pc : Option Addr) (cc : Nat) (ws : List Int) (gap : Int) (hw : Wok W.w) (hl : ∀ x ∈ l, Wok x.w) (hll : l.length < 2 ^ 62) :
    RetP Tryd.prog n_edit_Near [W.v, slv ql l.length cl, costs pc ws.length cc gap] (fun R => WordAt R W.p W.w ∧ WordsAt R ql l ∧ CostsAt R pc ws ∧ TabOk R) (.tuple #[.int .i64 (nearE ws gap W.w (l.map (·.w))).1, .int .i64 (nearE ws gap W.w (l.map (·.w))).2.1, .int .i64 (nearE ws gap W.w (l.map (·.w))).2.2]) := by
  obtain ⟨pw, cw, w⟩ := W
  simp only [] at hw
  refine Fn.of S_edit_Near mx [.p pw, .i w.length, .i cw, .p ql, .i l.length, .i cl, .p pc, .i ws.length, .i cc, .i gap] rfl rfl fun c hp => .alloc fun b0 => .alloc fun b1 => ?_
  obtain ⟨hp1, hp2, hp3, hp4⟩ := hp
  refine .callV (c_editCheck pc cc ws gap (some ⟨b1, 0, none⟩) 1 [⟨pw, cw, w⟩] (by simp [hw]) (by simp)) (fun g => ⟨hp3.mono g.R, fun i x hx => ⟨b1, 0, rfl, ?_⟩, ?_⟩) (.ite (fun h1 => .ret rfl ?_) (fun h1 => ?_))
  · rw [g.at (j := 1) rfl rfl, Nat.zero_add]; exact hx
  · simp only [List.mem_cons, List.not_mem_nil, or_false]
    rintro x rfl
    exact hp1.mono g.R
  · ((try simp only [BT.eval, IT.eval, SV.den, SV.dens, Env.int, Env.bool, Env.val, Env.ptr, letsOf, letU, snd, List.flatMap_cons, List.flatMap_nil, List.cons_append, List.nil_append, List.append_assoc, List.getElem?_cons_zero, List.getElem?_cons_succ] at h1); (try simp only [cm, cond_true, cond_false, pick_or, pick_and, Bool.or_eq_true, Bool.and_eq_true, Bool.or_eq_false_iff, Bool.and_eq_false_iff, Bool.not_eq_true', Bool.not_eq_false', decide_eq_true_eq, decide_eq_false_iff_not, beq_iff_eq, beq_eq_false_iff_ne, bne_iff_ne, bne_eq_false_iff_eq, ge_iff_le, gt_iff_lt, Int.not_lt, Int.not_le] at h1))
    replace h1 : checkE ws gap [w] ≠ 0 := h1
    unfold nearE
    rw [if_pos h1]; ((try simp only [BT.eval, IT.eval, SV.den, SV.dens, Env.int, Env.bool, Env.val, Env.ptr, letsOf, letU, snd, List.flatMap_cons, List.flatMap_nil, List.cons_append, List.nil_append, List.append_assoc, List.getElem?_cons_zero, List.getElem?_cons_succ]); (try simp only [cm, cond_true, cond_false, pick_or, pick_and, Bool.or_eq_true, Bool.and_eq_true, Bool.or_eq_false_iff, Bool.and_eq_false_iff, Bool.not_eq_true', Bool.not_eq_false', decide_eq_true_eq, decide_eq_false_iff_not, beq_iff_eq, beq_eq_false_iff_ne, bne_iff_ne, bne_eq_false_iff_eq, ge_iff_le, gt_iff_lt, Int.not_lt, Int.not_le])); rfl
  ((try simp only [BT.eval, IT.eval, SV.den, SV.dens, Env.int, Env.bool, Env.val, Env.ptr, letsOf, letU, snd, List.flatMap_cons, List.flatMap_nil, List.cons_append, List.nil_append, List.append_assoc, List.getElem?_cons_zero, List.getElem?_cons_succ] at h1); (try simp only [cm, cond_true, cond_false, pick_or, pick_and, Bool.or_eq_true, Bool.and_eq_true, Bool.or_eq_false_iff, Bool.and_eq_false_iff, Bool.not_eq_true', Bool.not_eq_false', decide_eq_true_eq, decide_eq_false_iff_not, beq_iff_eq, beq_eq_false_iff_ne, bne_iff_ne, bne_eq_false_iff_eq, ge_iff_le, gt_iff_lt, Int.not_lt, Int.not_le] at h1))
  replace h1 : checkE ws gap [w] = 0 := h1
  refine .chk (by ((try simp only [BT.eval, IT.eval, SV.den, SV.dens, Env.int, Env.bool, Env.val, Env.ptr, letsOf, letU, snd, List.flatMap_cons, List.flatMap_nil, List.cons_append, List.nil_append, List.append_assoc, List.getElem?_cons_zero, List.getElem?_cons_succ]); (try simp only [cm, cond_true, cond_false, pick_or, pick_and, Bool.or_eq_true, Bool.and_eq_true, Bool.or_eq_false_iff, Bool.and_eq_false_iff, Bool.not_eq_true', Bool.not_eq_false', decide_eq_true_eq, decide_eq_false_iff_not, beq_iff_eq, beq_eq_false_iff_ne, bne_iff_ne, bne_eq_false_iff_eq, ge_iff_le, gt_iff_lt, Int.not_lt, Int.not_le])); omega) (.ite (fun h2 => .ret rfl ?_) (fun h2 => .callV (c_editCheck pc cc ws gap ql cl l hl hll) (fun g => ⟨hp3.mono g.R, hp2.mono g.R⟩) (.ite (fun h3 => .ret rfl ?_) (fun h3 => .chk (by ((try simp only [BT.eval, IT.eval, SV.den, SV.dens, Env.int, Env.bool, Env.val, Env.ptr, letsOf, letU, snd, List.flatMap_cons, List.flatMap_nil, List.cons_append, List.nil_append, List.append_assoc, List.getElem?_cons_zero, List.getElem?_cons_succ]); (try simp only [cm, cond_true, cond_false, pick_or, pick_and, Bool.or_eq_true, Bool.and_eq_true, Bool.or_eq_false_iff, Bool.and_eq_false_iff, Bool.not_eq_true', Bool.not_eq_false', decide_eq_true_eq, decide_eq_false_iff_not, beq_iff_eq, beq_eq_false_iff_ne, bne_iff_ne, bne_eq_false_iff_eq, ge_iff_le, gt_iff_lt, Int.not_lt, Int.not_le])); omega) (.ite (fun h4 => .ret rfl ?_) (fun h4 => ?_)))))) <;> ((try simp only [BT.eval, IT.eval, SV.den, SV.dens, Env.int, Env.bool, Env.val, Env.ptr, letsOf, letU, snd, List.flatMap_cons, List.flatMap_nil, List.cons_append, List.nil_append, List.append_assoc, List.getElem?_cons_zero, List.getElem?_cons_succ] at h2); (try simp only [cm, cond_true, cond_false, pick_or, pick_and, Bool.or_eq_true, Bool.and_eq_true, Bool.or_eq_false_iff, Bool.and_eq_false_iff, Bool.not_eq_true', Bool.not_eq_false', decide_eq_true_eq, decide_eq_false_iff_not, beq_iff_eq, beq_eq_false_iff_ne, bne_iff_ne, bne_eq_false_iff_eq, ge_iff_le, gt_iff_lt, Int.not_lt, Int.not_le] at h2))
  · unfold nearE
    rw [if_neg (by simp [h1]), if_pos (by rw [List.length_map]; omega)]; ((try simp only [BT.eval, IT.eval, SV.den, SV.dens, Env.int, Env.bool, Env.val, Env.ptr, letsOf, letU, snd, List.flatMap_cons, List.flatMap_nil, List.cons_append, List.nil_append, List.append_assoc, List.getElem?_cons_zero, List.getElem?_cons_succ]); (try simp only [cm, cond_true, cond_false, pick_or, pick_and, Bool.or_eq_true, Bool.and_eq_true, Bool.or_eq_false_iff, Bool.and_eq_false_iff, Bool.not_eq_true', Bool.not_eq_false', decide_eq_true_eq, decide_eq_false_iff_not, beq_iff_eq, beq_eq_false_iff_ne, bne_iff_ne, bne_eq_false_iff_eq, ge_iff_le, gt_iff_lt, Int.not_lt, Int.not_le])); rfl
  · ((try simp only [BT.eval, IT.eval, SV.den, SV.dens, Env.int, Env.bool, Env.val, Env.ptr, letsOf, letU, snd, List.flatMap_cons, List.flatMap_nil, List.cons_append, List.nil_append, List.append_assoc, List.getElem?_cons_zero, List.getElem?_cons_succ] at h3); (try simp only [cm, cond_true, cond_false, pick_or, pick_and, Bool.or_eq_true, Bool.and_eq_true, Bool.or_eq_false_iff, Bool.and_eq_false_iff, Bool.not_eq_true', Bool.not_eq_false', decide_eq_true_eq, decide_eq_false_iff_not, beq_iff_eq, beq_eq_false_iff_ne, bne_iff_ne, bne_eq_false_iff_eq, ge_iff_le, gt_iff_lt, Int.not_lt, Int.not_le] at h3))
    unfold nearE
    rw [if_neg (by simp [h1]), if_neg (by rw [List.length_map]; omega), if_pos h3]; ((try simp only [BT.eval, IT.eval, SV.den, SV.dens, Env.int, Env.bool, Env.val, Env.ptr, letsOf, letU, snd, List.flatMap_cons, List.flatMap_nil, List.cons_append, List.nil_append, List.append_assoc, List.getElem?_cons_zero, List.getElem?_cons_succ]); (try simp only [cm, cond_true, cond_false, pick_or, pick_and, Bool.or_eq_true, Bool.and_eq_true, Bool.or_eq_false_iff, Bool.and_eq_false_iff, Bool.not_eq_true', Bool.not_eq_false', decide_eq_true_eq, decide_eq_false_iff_not, beq_iff_eq, beq_eq_false_iff_ne, bne_iff_ne, bne_eq_false_iff_eq, ge_iff_le, gt_iff_lt, Int.not_lt, Int.not_le])); rfl
  · ((try simp only [BT.eval, IT.eval, SV.den, SV.dens, Env.int, Env.bool, Env.val, Env.ptr, letsOf, letU, snd, List.flatMap_cons, List.flatMap_nil, List.cons_append, List.nil_append, List.append_assoc, List.getElem?_cons_zero, List.getElem?_cons_succ] at h3); (try simp only [cm, cond_true, cond_false, pick_or, pick_and, Bool.or_eq_true, Bool.and_eq_true, Bool.or_eq_false_iff, Bool.and_eq_false_iff, Bool.not_eq_true', Bool.not_eq_false', decide_eq_true_eq, decide_eq_false_iff_not, beq_iff_eq, beq_eq_false_iff_ne, bne_iff_ne, bne_eq_false_iff_eq, ge_iff_le, gt_iff_lt, Int.not_lt, Int.not_le] at h3))
    ((try simp only [BT.eval, IT.eval, SV.den, SV.dens, Env.int, Env.bool, Env.val, Env.ptr, letsOf, letU, snd, List.flatMap_cons, List.flatMap_nil, List.cons_append, List.nil_append, List.append_assoc, List.getElem?_cons_zero, List.getElem?_cons_succ] at h4); (try simp only [cm, cond_true, cond_false, pick_or, pick_and, Bool.or_eq_true, Bool.and_eq_true, Bool.or_eq_false_iff, Bool.and_eq_false_iff, Bool.not_eq_true', Bool.not_eq_false', decide_eq_true_eq, decide_eq_false_iff_not, beq_iff_eq, beq_eq_false_iff_ne, bne_iff_ne, bne_eq_false_iff_eq, ge_iff_le, gt_iff_lt, Int.not_lt, Int.not_le] at h4))
    unfold nearE
    rw [if_neg (by simp [h1]), if_neg (by rw [List.length_map]; omega), if_neg (by simp [h3]), if_pos (by rw [List.length_map]; omega)]; ((try simp only [BT.eval, IT.eval, SV.den, SV.dens, Env.int, Env.bool, Env.val, Env.ptr, letsOf, letU, snd, List.flatMap_cons, List.flatMap_nil, List.cons_append, List.nil_append, List.append_assoc, List.getElem?_cons_zero, List.getElem?_cons_succ]); (try simp only [cm, cond_true, cond_false, pick_or, pick_and, Bool.or_eq_true, Bool.and_eq_true, Bool.or_eq_false_iff, Bool.and_eq_false_iff, Bool.not_eq_true', Bool.not_eq_false', decide_eq_true_eq, decide_eq_false_iff_not, beq_iff_eq, beq_eq_false_iff_ne, bne_iff_ne, bne_eq_false_iff_eq, ge_iff_le, gt_iff_lt, Int.not_lt, Int.not_le])); rfl
  ((try simp only [BT.eval, IT.eval, SV.den, SV.dens, Env.int, Env.bool, Env.val, Env.ptr, letsOf, letU, snd, List.flatMap_cons, List.flatMap_nil, List.cons_append, List.nil_append, List.append_assoc, List.getElem?_cons_zero, List.getElem?_cons_succ] at h3); (try simp only [cm, cond_true, cond_false, pick_or, pick_and, Bool.or_eq_true, Bool.and_eq_true, Bool.or_eq_false_iff, Bool.and_eq_false_iff, Bool.not_eq_true', Bool.not_eq_false', decide_eq_true_eq, decide_eq_false_iff_not, beq_iff_eq, beq_eq_false_iff_ne, bne_iff_ne, bne_eq_false_iff_eq, ge_iff_le, gt_iff_lt, Int.not_lt, Int.not_le] at h3))
  ((try simp only [BT.eval, IT.eval, SV.den, SV.dens, Env.int, Env.bool, Env.val, Env.ptr, letsOf, letU, snd, List.flatMap_cons, List.flatMap_nil, List.cons_append, List.nil_append, List.append_assoc, List.getElem?_cons_zero, List.getElem?_cons_succ] at h4); (try simp only [cm, cond_true, cond_false, pick_or, pick_and, Bool.or_eq_true, Bool.and_eq_true, Bool.or_eq_false_iff, Bool.and_eq_false_iff, Bool.not_eq_true', Bool.not_eq_false', decide_eq_true_eq, decide_eq_false_iff_not, beq_iff_eq, beq_eq_false_iff_ne, bne_iff_ne, bne_eq_false_iff_eq, ge_iff_le, gt_iff_lt, Int.not_lt, Int.not_le] at h4))
  have hspec : nearE ws gap w (l.map (·.w)) = ((nearGo 0 0 0 ((l.map (·.w)).map fun x => rst (dC ws gap) gap w x)).1, (nearGo 0 0 0 ((l.map (·.w)).map fun x => rst (dC ws gap) gap w x)).2, 0) := by
    unfold nearE
    rw [if_neg (by simp [h1]), if_neg (by rw [List.length_map]; omega), if_neg (by simp [h3]), if_neg (by rw [List.length_map]; omega)]
  generalize hds : ((l.map (·.w)).map fun x => rst (dC ws gap) gap w x) = ds at hspec
  have hdl : ds.length = l.length := by rw [← hds]; simp
  obtain ⟨hc, hw0⟩ := checkE_of h1
  obtain ⟨_, hl0⟩ := checkE_of h3
  refine .env (by (try simp only [letsOf, letU, snd, List.flatMap_cons, List.flatMap_nil, List.cons_append, List.nil_append, List.append_assoc, List.append_nil]); rfl) (.chk (by ((try simp only [BT.eval, IT.eval, SV.den, SV.dens, Env.int, Env.bool, Env.val, Env.ptr, letsOf, letU, snd, List.flatMap_cons, List.flatMap_nil, List.cons_append, List.nil_append, List.append_assoc, List.getElem?_cons_zero, List.getElem?_cons_succ]); (try simp only [cm, cond_true, cond_false, pick_or, pick_and, Bool.or_eq_true, Bool.and_eq_true, Bool.or_eq_false_iff, Bool.and_eq_false_iff, Bool.not_eq_true', Bool.not_eq_false', decide_eq_true_eq, decide_eq_false_iff_not, beq_iff_eq, beq_eq_false_iff_ne, bne_iff_ne, bne_eq_false_iff_eq, ge_iff_le, gt_iff_lt, Int.not_lt, Int.not_le])); omega) (.loop (fun n us _ => ∃ (p : Nat) (best : Int) (k : Nat), us = [.i p, .i best, .i k] ∧ n + k = l.length ∧ nearGo 0 0 0 ds = nearGo k p best (ds.drop k)) l.length ⟨0, 0, 0, rfl, rfl, rfl⟩ ?_))
  rintro n _ m _ ⟨p, best, k, rfl, hn, hs⟩
  refine .ite (fun h5 => ?_) (fun h5 => .ret rfl ?_) <;> ((try simp only [BT.eval, IT.eval, SV.den, SV.dens, Env.int, Env.bool, Env.val, Env.ptr, letsOf, letU, snd, List.flatMap_cons, List.flatMap_nil, List.cons_append, List.nil_append, List.append_assoc, List.getElem?_cons_zero, List.getElem?_cons_succ] at h5); (try simp only [cm, cond_true, cond_false, pick_or, pick_and, Bool.or_eq_true, Bool.and_eq_true, Bool.or_eq_false_iff, Bool.and_eq_false_iff, Bool.not_eq_true', Bool.not_eq_false', decide_eq_true_eq, decide_eq_false_iff_not, beq_iff_eq, beq_eq_false_iff_ne, bne_iff_ne, bne_eq_false_iff_eq, ge_iff_le, gt_iff_lt, Int.not_lt, Int.not_le] at h5))
  · have hk : k < l.length := by omega
    rw [nearGo_drop k p best ds (by omega)] at hs
    have hdk : ds[k]'(by omega) = rst (dC ws gap) gap w l[k].w := by
      simp only [← hds]
      simp
    rw [hdk] at hs
    have hcd := c_editDist ⟨pw, cw, w⟩ l[k] pc cc ws gap hw (hl _ (List.getElem_mem hk))
    have hd0 : distE ws gap w l[k].w = (rst (dC ws gap) gap w l[k].w, 0) := by
      unfold distE
      rw [if_neg]; rfl
      simp only [ne_eq, Decidable.not_not]
      refine checkE_mk hc fun x hx => ?_
      simp only [List.mem_cons, List.not_mem_nil, or_false] at hx
      rcases hx with rfl | rfl
      · exact hw0 _ (by simp)
      · exact hl0 _ (List.mem_map.2 ⟨_, List.getElem_mem hk, rfl⟩)
    simp only [] at hcd
    rw [hd0] at hcd
    have ek := add_i64 k (by omega)
    refine .loadWD l k hk (fun g => hp2.1.mono g.R) (.callV hcd (fun g => ⟨hp1.mono g.R, (hp2.2 _ (List.getElem_mem hk)).mono g.R, hp3.mono g.R, hp4.mono g.R⟩) (.env (by (try simp only [letsOf, letU, snd, List.flatMap_cons, List.flatMap_nil, List.cons_append, List.nil_append, List.append_assoc, List.append_nil]); rfl) (.ite (fun h6 => .again rfl ⟨n - 1, by omega, k, rst (dC ws gap) gap w l[k].w, k + 1, ?_, by omega, ?_⟩) (fun h6 => .again rfl ⟨n - 1, by omega, p, best, k + 1, ?_, by omega, ?_⟩)))) <;> ((try simp only [BT.eval, IT.eval, SV.den, SV.dens, Env.int, Env.bool, Env.val, Env.ptr, letsOf, letU, snd, List.flatMap_cons, List.flatMap_nil, List.cons_append, List.nil_append, List.append_assoc, List.getElem?_cons_zero, List.getElem?_cons_succ] at h6); (try simp only [cm, cond_true, cond_false, pick_or, pick_and, Bool.or_eq_true, Bool.and_eq_true, Bool.or_eq_false_iff, Bool.and_eq_false_iff, Bool.not_eq_true', Bool.not_eq_false', decide_eq_true_eq, decide_eq_false_iff_not, beq_iff_eq, beq_eq_false_iff_ne, bne_iff_ne, bne_eq_false_iff_eq, ge_iff_le, gt_iff_lt, Int.not_lt, Int.not_le] at h6))
    · (simp only [letsOf, letU, snd, List.flatMap_cons, List.flatMap_nil, Sh.uss, Sh.us, IT.eval, BT.eval, SV.den, SV.dens, Env.int, Env.bool, Env.val, Env.ptr, atAddr, map_add0, List.append_assoc, List.cons_append, List.nil_append, List.append_nil, List.getElem?_cons_zero, List.getElem?_cons_succ]); rw [ek]
    · rw [hs, if_pos (by omega)]
    · (simp only [letsOf, letU, snd, List.flatMap_cons, List.flatMap_nil, Sh.uss, Sh.us, IT.eval, BT.eval, SV.den, SV.dens, Env.int, Env.bool, Env.val, Env.ptr, atAddr, map_add0, List.append_assoc, List.cons_append, List.nil_append, List.append_nil, List.getElem?_cons_zero, List.getElem?_cons_succ]); rw [ek]
    · rw [hs, if_neg (by omega)]
  · rw [List.drop_of_length_le (by omega)] at hs
    rw [hspec, hs]; rfl
theorem gcd_pos {n d : Int} (hd : 0 < d) : 0 < gcdI n d := by
  unfold gcdI
  have := Nat.gcd_pos_of_pos_right n.toNat (n := d.toNat) (by omega)
  omega
theorem c_editRatio (A B : WD) (pc : Option Addr) (cc : Nat) (ws : List Int) (gap : Int) (ha : Wok A.w) (hb : Wok B.w) :
    RetP Tryd.prog n_edit_Ratio [A.v, B.v, costs pc ws.length cc gap] (fun R => WordAt R A.p A.w ∧ WordAt R B.p B.w ∧ CostsAt R pc ws ∧ TabOk R) (.tuple #[.agg #[.int .i64 (ratioE ws gap A.w B.w).1.1, .int .i64 (ratioE ws gap A.w B.w).1.2], .int .i64 (ratioE ws gap A.w B.w).2]) := by
  obtain ⟨pa, ca, a⟩ := A
  obtain ⟨pb, cb, b⟩ := B
  simp only [] at ha hb
  refine Fn.of S_edit_Ratio mx [.p pa, .i a.length, .i ca, .p pb, .i b.length, .i cb, .p pc, .i ws.length, .i cc, .i gap] rfl rfl fun c hp => .alloc fun _ => .alloc fun _ => .callV (c_editDist ⟨pa, ca, a⟩ ⟨pb, cb, b⟩ pc cc ws gap ha hb) (fun g => ⟨hp.1.mono g.R, hp.2.1.mono g.R, hp.2.2.1.mono g.R, hp.2.2.2.mono g.R⟩) ?_
  simp only []
  unfold ratioE
  rw [← distE_eq]
  generalize hde : distE ws gap a b = de
  refine .env (by (try simp only [letsOf, letU, snd, List.flatMap_cons, List.flatMap_nil, List.cons_append, List.nil_append, List.append_assoc, List.append_nil]); rfl) (.ite (fun h1 => .ret rfl ?_) (fun h1 => ?_)) <;> ((try simp only [BT.eval, IT.eval, SV.den, SV.dens, Env.int, Env.bool, Env.val, Env.ptr, letsOf, letU, snd, List.flatMap_cons, List.flatMap_nil, List.cons_append, List.nil_append, List.append_assoc, List.getElem?_cons_zero, List.getElem?_cons_succ] at h1); (try simp only [cm, cond_true, cond_false, pick_or, pick_and, Bool.or_eq_true, Bool.and_eq_true, Bool.or_eq_false_iff, Bool.and_eq_false_iff, Bool.not_eq_true', Bool.not_eq_false', decide_eq_true_eq, decide_eq_false_iff_not, beq_iff_eq, beq_eq_false_iff_ne, bne_iff_ne, bne_eq_false_iff_eq, ge_iff_le, gt_iff_lt, Int.not_lt, Int.not_le] at h1))
  · rw [if_pos h1]; ((try simp only [BT.eval, IT.eval, SV.den, SV.dens, Env.int, Env.bool, Env.val, Env.ptr, letsOf, letU, snd, List.flatMap_cons, List.flatMap_nil, List.cons_append, List.nil_append, List.append_assoc, List.getElem?_cons_zero, List.getElem?_cons_succ]); (try simp only [cm, cond_true, cond_false, pick_or, pick_and, Bool.or_eq_true, Bool.and_eq_true, Bool.or_eq_false_iff, Bool.and_eq_false_iff, Bool.not_eq_true', Bool.not_eq_false', decide_eq_true_eq, decide_eq_false_iff_not, beq_iff_eq, beq_eq_false_iff_ne, bne_iff_ne, bne_eq_false_iff_eq, ge_iff_le, gt_iff_lt, Int.not_lt, Int.not_le]))
  rw [if_neg (by simp [h1])]
  have he : checkE ws gap [a, b] = 0 := by
    refine Classical.byContradiction fun hn => ?_
    rw [← hde] at h1
    unfold distE at h1
    rw [if_pos hn] at h1
    exact hn h1
  obtain ⟨hc, ⟨la, va⟩, lb, vb⟩ := checkE_two he
  have hg := (checkC_zero hc).2
  have hd1 : de.1 = rst (dC ws gap) gap a b := by rw [← hde]; unfold distE; rw [if_neg (by simp [he])]; rfl
  have hr0 : 0 ≤ de.1 := by rw [hd1]; exact rst_pos hg.1 (fun x y => (distC_pos hc).1) a b
  have hr1 : de.1 ≤ gap * ((a.length : Int) + b.length) := by
    rw [hd1]
    have := rst_le (d := dC ws gap) (g := gap) a b
    rwa [Int.natCast_add] at this
  have hm1 : gap * ((a.length : Int) + b.length) ≤ 1073741824 * 64 := Int.le_trans (Int.mul_le_mul_of_nonneg_right hg.2.1 (by omega)) (by omega)
  have hm0 : 0 ≤ gap * ((a.length : Int) + b.length) := Int.mul_nonneg hg.1 (by omega)
  have e1 : ar .add .i64 (a.length : Int) (b.length : Int) = (a.length : Int) + b.length := addI (by omega) (by omega)
  have e2 : ar .mul .i64 gap (ar .add .i64 (a.length : Int) (b.length : Int)) = gap * ((a.length : Int) + b.length) := by rw [e1]; exact mulI (by omega) (by omega)
  generalize gap * ((a.length : Int) + b.length) = d at *
  refine .chk (by ((try simp only [BT.eval, IT.eval, SV.den, SV.dens, Env.int, Env.bool, Env.val, Env.ptr, letsOf, letU, snd, List.flatMap_cons, List.flatMap_nil, List.cons_append, List.nil_append, List.append_assoc, List.getElem?_cons_zero, List.getElem?_cons_succ]); (try simp only [cm, cond_true, cond_false, pick_or, pick_and, Bool.or_eq_true, Bool.and_eq_true, Bool.or_eq_false_iff, Bool.and_eq_false_iff, Bool.not_eq_true', Bool.not_eq_false', decide_eq_true_eq, decide_eq_false_iff_not, beq_iff_eq, beq_eq_false_iff_ne, bne_iff_ne, bne_eq_false_iff_eq, ge_iff_le, gt_iff_lt, Int.not_lt, Int.not_le])); omega) (.chk (by ((try simp only [BT.eval, IT.eval, SV.den, SV.dens, Env.int, Env.bool, Env.val, Env.ptr, letsOf, letU, snd, List.flatMap_cons, List.flatMap_nil, List.cons_append, List.nil_append, List.append_assoc, List.getElem?_cons_zero, List.getElem?_cons_succ]); (try simp only [cm, cond_true, cond_false, pick_or, pick_and, Bool.or_eq_true, Bool.and_eq_true, Bool.or_eq_false_iff, Bool.and_eq_false_iff, Bool.not_eq_true', Bool.not_eq_false', decide_eq_true_eq, decide_eq_false_iff_not, beq_iff_eq, beq_eq_false_iff_ne, bne_iff_ne, bne_eq_false_iff_eq, ge_iff_le, gt_iff_lt, Int.not_lt, Int.not_le])); omega) (.ite (fun h2 => .ret rfl ?_) (fun h2 => ?_)))
  · replace h2 : (ar .mul .i64 gap (ar .add .i64 (a.length : Int) (b.length : Int)) == 0) = true := h2
    rw [e2] at h2
    rw [if_pos (by simpa using h2)]; ((try simp only [BT.eval, IT.eval, SV.den, SV.dens, Env.int, Env.bool, Env.val, Env.ptr, letsOf, letU, snd, List.flatMap_cons, List.flatMap_nil, List.cons_append, List.nil_append, List.append_assoc, List.getElem?_cons_zero, List.getElem?_cons_succ]); (try simp only [cm, cond_true, cond_false, pick_or, pick_and, Bool.or_eq_true, Bool.and_eq_true, Bool.or_eq_false_iff, Bool.and_eq_false_iff, Bool.not_eq_true', Bool.not_eq_false', decide_eq_true_eq, decide_eq_false_iff_not, beq_iff_eq, beq_eq_false_iff_ne, bne_iff_ne, bne_eq_false_iff_eq, ge_iff_le, gt_iff_lt, Int.not_lt, Int.not_le]))
  · replace h2 : (ar .mul .i64 gap (ar .add .i64 (a.length : Int) (b.length : Int)) == 0) = false := h2
    rw [e2] at h2
    have hd0 : d ≠ 0 := by simpa using h2
    rw [if_neg hd0]
    refine .loop (fun n us _ => ∃ x y : Int, us = [.i x, .i y] ∧ 0 ≤ x ∧ 0 ≤ y ∧ y = (n : Int) ∧ gcdI x y = gcdI de.1 d) d.toNat ⟨de.1, d, ?_, hr0, by omega, by omega, rfl⟩ ?_
    · (simp only [letsOf, letU, snd, List.flatMap_cons, List.flatMap_nil, Sh.uss, Sh.us, IT.eval, BT.eval, SV.den, SV.dens, Env.int, Env.bool, Env.val, Env.ptr, atAddr, map_add0, List.append_assoc, List.cons_append, List.nil_append, List.append_nil, List.getElem?_cons_zero, List.getElem?_cons_succ]); rw [e2]
    rintro n _ m _ ⟨x, y, rfl, hx, hy, hyn, hgc⟩
    refine .ite (fun h3 => .chk h3 (.again rfl ⟨(x.tmod y).toNat, ?_, y, x.tmod y, ?_, by omega, ?_, ?_, ?_⟩)) (fun h3 => ?_) <;> ((try simp only [BT.eval, IT.eval, SV.den, SV.dens, Env.int, Env.bool, Env.val, Env.ptr, letsOf, letU, snd, List.flatMap_cons, List.flatMap_nil, List.cons_append, List.nil_append, List.append_assoc, List.getElem?_cons_zero, List.getElem?_cons_succ] at h3); (try simp only [cm, cond_true, cond_false, pick_or, pick_and, Bool.or_eq_true, Bool.and_eq_true, Bool.or_eq_false_iff, Bool.and_eq_false_iff, Bool.not_eq_true', Bool.not_eq_false', decide_eq_true_eq, decide_eq_false_iff_not, beq_iff_eq, beq_eq_false_iff_ne, bne_iff_ne, bne_eq_false_iff_eq, ge_iff_le, gt_iff_lt, Int.not_lt, Int.not_le] at h3))
    · have := Int.tmod_lt_of_pos x (by omega : 0 < y)
      have := Int.tmod_nonneg y hx
      omega
    · (simp only [letsOf, letU, snd, List.flatMap_cons, List.flatMap_nil, Sh.uss, Sh.us, IT.eval, BT.eval, SV.den, SV.dens, Env.int, Env.bool, Env.val, Env.ptr, atAddr, map_add0, List.append_assoc, List.cons_append, List.nil_append, List.append_nil, List.getElem?_cons_zero, List.getElem?_cons_succ]); rfl
    · exact Int.tmod_nonneg y hx
    · have := Int.tmod_nonneg y hx
      omega
    · rw [gcdI_step hx (by omega), hgc]
    · have hy0 : y = 0 := by omega
      subst hy0
      rw [gcdI_zero hx] at hgc
      have hp := gcd_pos (n := de.1) (d := d) (by omega)
      rw [← hgc] at hp
      refine .chk (by ((try simp only [BT.eval, IT.eval, SV.den, SV.dens, Env.int, Env.bool, Env.val, Env.ptr, letsOf, letU, snd, List.flatMap_cons, List.flatMap_nil, List.cons_append, List.nil_append, List.append_assoc, List.getElem?_cons_zero, List.getElem?_cons_succ]); (try simp only [cm, cond_true, cond_false, pick_or, pick_and, Bool.or_eq_true, Bool.and_eq_true, Bool.or_eq_false_iff, Bool.and_eq_false_iff, Bool.not_eq_true', Bool.not_eq_false', decide_eq_true_eq, decide_eq_false_iff_not, beq_iff_eq, beq_eq_false_iff_ne, bne_iff_ne, bne_eq_false_iff_eq, ge_iff_le, gt_iff_lt, Int.not_lt, Int.not_le])); omega) (.chk (by ((try simp only [BT.eval, IT.eval, SV.den, SV.dens, Env.int, Env.bool, Env.val, Env.ptr, letsOf, letU, snd, List.flatMap_cons, List.flatMap_nil, List.cons_append, List.nil_append, List.append_assoc, List.getElem?_cons_zero, List.getElem?_cons_succ]); (try simp only [cm, cond_true, cond_false, pick_or, pick_and, Bool.or_eq_true, Bool.and_eq_true, Bool.or_eq_false_iff, Bool.and_eq_false_iff, Bool.not_eq_true', Bool.not_eq_false', decide_eq_true_eq, decide_eq_false_iff_not, beq_iff_eq, beq_eq_false_iff_ne, bne_iff_ne, bne_eq_false_iff_eq, ge_iff_le, gt_iff_lt, Int.not_lt, Int.not_le])); omega) (.ret rfl ?_))
      have q1 : ar .quo .i64 de.1 x = de.1.tdiv x := by
        have a1 := Int.tdiv_nonneg hr0 (Int.le_of_lt hp)
        have a2 := Int.tdiv_le_self (b := x) hr0
        exact wrap_i64 (by omega) (by omega)
      have q2 : ar .quo .i64 d x = d.tdiv x := by
        have a1 := Int.tdiv_nonneg hm0 (Int.le_of_lt hp)
        have a2 := Int.tdiv_le_self (b := x) hm0
        exact wrap_i64 (by omega) (by omega)
      show Value.tuple #[.agg #[.int .i64 (ar .quo .i64 de.1 x), .int .i64 (ar .quo .i64 (ar .mul .i64 gap (ar .add .i64 (a.length : Int) (b.length : Int))) x)], .int .i64 0] = _
      rw [e2, q1, q2]
      unfold lowest
      rw [hgc]
end Go.Proofs.YtedfogpnmpmggaaDoor
