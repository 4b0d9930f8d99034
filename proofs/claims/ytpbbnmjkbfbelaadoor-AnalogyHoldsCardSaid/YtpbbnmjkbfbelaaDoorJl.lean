/- Chapter 30: the reference's Extend. -/
import Derived.Test.YtpbbnmjkbfbelaaDoorJk
set_option linter.unusedSimpArgs false
set_option linter.unusedVariables false
namespace Go.Sy
open Go Go.RowKit
section
variable {P : Program} {c : Cx} {L : List Nat} {ρ : Env} {blks : List Blk} {m : Mem} {R : Value → HW → Prop} {Dn : Nat → List U → HW → Prop} {A : List (List U → HW → Prop)}
/-- A model's two words, by two loads. -/
theorem DenM.loadMD2 {i : Nat} {I len : IT} {k : Tree} (l : List MD) (j : Nat) (hj : j < l.length) (hw : Good c L m → Cells (vw c L ρ blks m) (ρ.ptr i) (mcells l)) (hw2 : Good c L m → Cells (vw c L (ρ ++ [U.p l[j].a.p, U.i l[j].a.w.length, U.i l[j].a.cap]) blks m) ((ρ ++ [U.p l[j].a.p, U.i l[j].a.w.length, U.i l[j].a.cap]).ptr i) (mcells l))
    (hk : DenM P R Dn k L (ρ ++ [.p l[j].a.p, .i l[j].a.w.length, .i l[j].a.cap] ++ [.p l[j].b.p, .i l[j].b.w.length, .i l[j].b.cap]) c m A) (hI : I.eval ρ = (j : Int) := by rfl) (hn : len.eval ρ = (l.length : Int) := by rfl)
    (hI2 : I.eval (ρ ++ [U.p l[j].a.p, U.i l[j].a.w.length, U.i l[j].a.cap]) = (j : Int) := by rfl) (hn2 : len.eval (ρ ++ [U.p l[j].a.p, U.i l[j].a.w.length, U.i l[j].a.cap]) = (l.length : Int) := by rfl) :
    DenM P R Dn (.chk (.pick (.cmp .geq I (.lit 0)) (.pick (.cmp .lss I len) (.some i) (.lit false)) (.lit false)) (.chk (.pick (.cmp .geq (.off I 2 (.lit 0)) (.lit 0)) (.some i) (.lit false)) (.load i (.off I 2 (.lit 0)) [.sl] blks
      (.chk (.pick (.cmp .geq I (.lit 0)) (.pick (.cmp .lss I len) (.some i) (.lit false)) (.lit false)) (.chk (.pick (.cmp .geq (.off I 2 (.lit 0)) (.lit 0)) (.some i) (.lit false)) (.load i (.off (.lit 1) 1 (.off I 2 (.lit 0))) [.sl] blks k)))))) L ρ c m A := fun g => by
  have hcs := mcells_at l j hj
  obtain ⟨b, o, hpe⟩ := (hw g).some (i := j * 2) (by rw [mcells_len]; omega)
  obtain ⟨b2, o2, hpe2⟩ := (hw2 g).some (i := j * 2) (by rw [mcells_len]; omega)
  have h1 : (BT.pick (.cmp .geq I (.lit 0)) (.pick (.cmp .lss I len) (.some i) (.lit false)) (.lit false)).eval ρ = true := by
    simp only [BT.eval, IT.eval, hI, hn, hpe, cm, pick_and]; simp; omega
  have h2 : (BT.pick (.cmp .geq (.off I 2 (.lit 0)) (.lit 0)) (.some i) (.lit false)).eval ρ = true := by
    simp only [BT.eval, IT.eval, hI, hpe, cm, pick_and]; simp; omega
  have h3 : (BT.pick (.cmp .geq I (.lit 0)) (.pick (.cmp .lss I len) (.some i) (.lit false)) (.lit false)).eval (ρ ++ [U.p l[j].a.p, U.i l[j].a.w.length, U.i l[j].a.cap]) = true := by
    simp only [BT.eval, IT.eval, hI2, hn2, hpe2, cm, pick_and]; simp; omega
  have h4 : (BT.pick (.cmp .geq (.off I 2 (.lit 0)) (.lit 0)) (.some i) (.lit false)).eval (ρ ++ [U.p l[j].a.p, U.i l[j].a.w.length, U.i l[j].a.cap]) = true := by
    simp only [BT.eval, IT.eval, hI2, hpe2, cm, pick_and]; simp; omega
  exact DenM.chk h1 (.chk h2 (.loadS (mcells l) (j * 2) l[j].a.p l[j].a.w.length l[j].a.cap (by simp only [IT.eval, hI]; simp) hcs.1 hw (.chk h3 (.chk h4 (.loadS (mcells l) (j * 2 + 1) l[j].b.p l[j].b.w.length l[j].b.cap (by simp only [IT.eval, hI2]; simp <;> omega) hcs.2 hw2 hk))))) g
end
/-- How many models of ms have w. -/
def votes (ms : List MD) (c w : List Snd) : Nat := ms.countP (supM c w)
/-- The better of what was best and what comes next. -/
def stepE (N : List Snd → Nat) (s : List Snd × Nat) : Option (List Snd) → List Snd × Nat
  | none => s
  | some w => if w.length > 32 then s else if N w > s.2 ∨ (N w = s.2 ∧ ordW w s.1 < 0) then (w, N w) else s
def optsM (c : List Snd) (m : MD) : List (Option (List Snd)) := [solveW m.a.w m.b.w c, frontW m.a.w m.b.w c]
def bestE (ms ks : List MD) (c : List Snd) : List Snd × Nat := (ks.flatMap (optsM c)).foldl (stepE (votes ms c)) ([], 0)
def extW (ms : List MD) (c : List Snd) : List Snd × Int × Int := if chkM ms [c] ≠ 0 then ([], 0, chkM ms [c]) else if (bestE ms ms c).2 = 0 then ([], 0, 5) else ((bestE ms ms c).1, ((bestE ms ms c).2 : Nat), 0)
def ExtR (et : TypeId) (mq : Mem) (v : Value) (r : List Snd × Int × Int) : Prop := ∃ q cq, v = .tuple #[slv q r.1.length cq, .int .i64 r.2.1, .int .i64 r.2.2] ∧ RowW mq et q cq r.1
theorem bestE_snoc {ms ks : List MD} {c : List Snd} {j : Nat} (hj : j < ks.length) : bestE ms (ks.take (j + 1)) c = (optsM c ks[j]).foldl (stepE (votes ms c)) (bestE ms (ks.take j) c) := by
  unfold bestE
  rw [List.take_succ_eq_append_getElem hj, List.flatMap_append, List.foldl_append]; simp
theorem stepE_len {N : List Snd → Nat} {s : List Snd × Nat} {o : Option (List Snd)} (h : s.1.length ≤ 32) : (stepE N s o).1.length ≤ 32 := by
  cases o with
  | none => exact h
  | some w =>
    by_cases h1 : w.length > 32
    · rw [show stepE N s (some w) = s from if_pos h1]; exact h
    · rw [show stepE N s (some w) = if N w > s.2 ∨ (N w = s.2 ∧ ordW w s.1 < 0) then (w, N w) else s from if_neg h1]
      split
      · show w.length ≤ 32; omega
      · exact h
theorem ordS_neg (s t : Snd) : decide (ordS s t < 0) = (if s.1 = t.1 then decide (s.2 < t.2) else decide (s.1 < t.1)) := by
  unfold ordS
  rcases Nat.lt_trichotomy s.1 t.1 with h | h | h
  · rw [if_pos h, if_neg (by omega)]; simp [h]
  · rw [if_neg (by omega), if_neg (by omega), if_pos h]
    rcases Nat.lt_trichotomy s.2 t.2 with h | h | h
    · rw [if_pos h]; simp [h]
    · rw [if_neg (by omega), if_neg (by omega)]; simp [h]
    · rw [if_neg (by omega), if_pos h]; simp; omega
  · rw [if_neg (by omega), if_pos h, if_neg (by omega)]; simp; omega
theorem ordS_flip (s t : Snd) : ordS t s = - ordS s t := by
  unfold ordS
  rcases Nat.lt_trichotomy s.1 t.1 with h | h | h
  · rw [if_neg (by omega), if_pos h, if_pos h]; rfl
  · rw [if_neg (by omega), if_neg (by omega), if_neg (by omega : ¬ s.1 < t.1), if_neg (by omega : ¬ t.1 < s.1)]
    rcases Nat.lt_trichotomy s.2 t.2 with h | h | h
    · rw [if_neg (by omega), if_pos h, if_pos h]; rfl
    · rw [if_neg (by omega), if_neg (by omega), if_neg (by omega), if_neg (by omega)]; rfl
    · rw [if_pos h, if_neg (by omega), if_pos h]
  · rw [if_pos h, if_neg (by omega : ¬ s.1 < t.1), if_pos h]
end Go.Sy
namespace Go.Proofs.YtpbbnmjkbfbelaaDoor
open Go Go.Sy Go.RowKit
theorem c_before (s t : Snd) : Ret Tryd.prog n_ref02_before [snd s, snd t] (.bool (decide (ordS s t < 0))) := by
  refine Fn.of S_ref02_before mx [.i s.1, .i s.2, .i t.1, .i t.2] rfl rfl fun c _ => .alloc fun b0 => .alloc fun b1 => .ite (fun h1 => .ite (fun h2 => .ret rfl ?_) (fun h2 => .ret rfl ?_)) (fun h1 => .ret rfl ?_) <;> ((try simp only [evE, liE, letsOf, letU, snd] at h1); (try simp only [cmE] at h1))
  · ((try simp only [evE, liE, letsOf, letU, snd] at h2); (try simp only [cmE] at h2)); omega
  · rw [ordS_neg, if_pos (by omega)]
    show Value.bool (cm .lss (s.2 : Int) (t.2 : Int)) = _
    simp [cm]
  · rw [ordS_neg, if_neg (by omega)]
    show Value.bool (bif cm .lss (s.1 : Int) (t.1 : Int) then true else false) = _
    simp only [cm, Int.ofNat_lt]
    cases decide (s.1 < t.1) <;> rfl
theorem c_refOrder (p q : Option Addr) (ca cb : Nat) (a b : List Snd) (hla : a.length < 2 ^ 40) (hlb : b.length < 2 ^ 40) : RetP Tryd.prog n_ref02_Order [slv p a.length ca, slv q b.length cb] (fun R => WordAt R p a ∧ WordAt R q b) (.int .i64 (ordW a b)) := by
  refine Fn.of S_ref02_Order mx [.p p, .i a.length, .i ca, .p q, .i b.length, .i cb] rfl rfl fun c hp => ?_
  refine .loop (fun n us _ => ∃ (e : Int) (j : Nat), us = [.i e, .i j] ∧ n + j = a.length ∧ j ≤ b.length ∧ ordW a b = ordW (a.drop j) (b.drop j)) a.length ⟨0, 0, rfl, rfl, Nat.zero_le _, rfl⟩ ?_
  rintro n _ m _ ⟨e, j, rfl, hn, hjb, ho⟩
  refine .join (fun us _ => us = [.b (decide (j < a.length ∧ j < b.length))]) (.chk (by ((try simp only [evE, liE, letsOf, letU, snd]); (try simp only [cmE])); omega) (.ite (fun h1 => .chk (by ((try simp only [evE, liE, letsOf, letU, snd]); (try simp only [cmE])); omega) (.again rfl ?_)) (fun h1 => .again rfl ?_))) ?_
  · ((try simp only [evE, liE, letsOf, letU, snd] at h1); (try simp only [cmE] at h1)); (simp only [evE, liE, letsOf, letU, snd, Sh.uss, Sh.us, atAddr, map_add0, List.append_nil])
    simp only [cm, Int.ofNat_lt]
    have : j < a.length := by omega
    simp [this]
  · ((try simp only [evE, liE, letsOf, letU, snd] at h1); (try simp only [cmE] at h1)); (simp only [evE, liE, letsOf, letU, snd, Sh.uss, Sh.us, atAddr, map_add0, List.append_nil])
    have : ¬ j < a.length := by omega
    simp [this]
  rintro _ m2 _ rfl
  refine .env (by (try simp only [liE, letsOf, letU, snd, List.append_nil]); rfl) (.ite (fun h1 => ?_) (fun h1 => .chk (by ((try simp only [evE, liE, letsOf, letU, snd]); (try simp only [cmE])); omega) (.chk (by ((try simp only [evE, liE, letsOf, letU, snd]); (try simp only [cmE])); omega) (.ite (fun h2 => .ret rfl ?_) (fun h2 => .chk (by ((try simp only [evE, liE, letsOf, letU, snd]); (try simp only [cmE])); omega) (.chk (by ((try simp only [evE, liE, letsOf, letU, snd]); (try simp only [cmE])); omega) (.ite (fun h3 => .ret rfl ?_) (fun h3 => .ret rfl ?_))))))))
  · replace h1 : decide (j < a.length ∧ j < b.length) = true := h1
    obtain ⟨ha, hb⟩ := of_decide_eq_true h1
    rw [ordW_drop ha hb] at ho
    refine .loadW a j ha (fun g => hp.1.mono g.R) (.env (by (try simp only [liE, letsOf, letU, snd, List.append_nil]); rfl) (.loadW b j hb (fun g => hp.2.mono g.R) (.env (by (try simp only [liE, letsOf, letU, snd, List.append_nil]); rfl) (.callV (c_before a[j] b[j]) (fun _ => trivial) (.env (by (try simp only [liE, letsOf, letU, snd, List.append_nil]); rfl) (.ite (fun h2 => .ret rfl ?_) (fun h2 => ?_)))))))
    · replace h2 : decide (ordS a[j] b[j] < 0) = true := h2
      have h2 := of_decide_eq_true h2
      rw [ho, if_pos (by omega)]
      rcases ordS_range a[j] b[j] with h | h | h <;> rw [h] at h2 ⊢ <;> first | rfl | omega
    · replace h2 : decide (ordS a[j] b[j] < 0) = false := h2
      have h2 := of_decide_eq_false h2
      refine .loadW b j hb (fun g => hp.2.mono g.R) (.env (by (try simp only [liE, letsOf, letU, snd, List.append_nil]); rfl) (.loadW a j ha (fun g => hp.1.mono g.R) (.env (by (try simp only [liE, letsOf, letU, snd, List.append_nil]); rfl) (.callV (c_before b[j] a[j]) (fun _ => trivial) (.env (by (try simp only [liE, letsOf, letU, snd, List.append_nil]); rfl) (.ite (fun h3 => .ret rfl ?_) (fun h3 => .again rfl ⟨n - 1, by omega, e, j + 1, ?_, by omega, by omega, ?_⟩)))))))
      · replace h3 : decide (ordS b[j] a[j] < 0) = true := h3
        have h3 := of_decide_eq_true h3
        rw [ordS_flip] at h3
        rw [ho, if_pos (by omega)]
        rcases ordS_range a[j] b[j] with h | h | h <;> rw [h] at h3 ⊢ <;> first | rfl | omega
      · (simp only [evE, liE, letsOf, letU, snd, Sh.uss, Sh.us, atAddr, map_add0, List.append_nil]); rw [add_i64 j (by omega)]
      · replace h3 : decide (ordS b[j] a[j] < 0) = false := h3
        have h3 := of_decide_eq_false h3
        rw [ordS_flip] at h3
        rw [ho, if_neg (by omega)]
  all_goals
    replace h1 : decide (j < a.length ∧ j < b.length) = false := h1
    have h1 := of_decide_eq_false h1
    rw [ho, ordW_end (by omega) (by omega) hjb]
    ((try simp only [evE, liE, letsOf, letU, snd] at h2); (try simp only [cmE] at h2))
  · rw [if_pos (by omega)]; rfl
  · ((try simp only [evE, liE, letsOf, letU, snd] at h3); (try simp only [cmE] at h3)); rw [if_neg (by omega), if_pos (by omega)]; rfl
  · ((try simp only [evE, liE, letsOf, letU, snd] at h3); (try simp only [cmE] at h3)); rw [if_neg (by omega), if_neg (by omega)]; rfl
set_option maxHeartbeats 1000000 in
theorem c_refExtend (p : Option Addr) (cp : Nat) (ms : List MD) (C : WD) (hm : ModelsOk ms) (hc : Wok C.w) (oc : C.ok) (hl : ms.length < 2 ^ 62) : FnM Tryd.prog n_ref30_Extend [slv p ms.length cp, C.v] (fun R => ModelsAt R p ms ∧ WordAt R C.p C.w) fun v mq _ => ExtR 31 mq v (extW ms C.w) := by
  refine FnM.of S_ref30_Extend mx [.p p, .i ms.length, .i cp, .p C.p, .i C.w.length, .i C.cap] rfl rfl fun c hp => .alloc fun b0 => ?_
  obtain ⟨hM, hC⟩ := hp
  refine .callV (c_ref30check p cp ms (some ⟨b0, 0, none⟩) 1 [C] hm (by simp [hc]) (by simp)) (fun g => ⟨hM.mono g.R, g.cells (j := 0) rfl rfl rfl, ?_⟩) (.env (by (try simp only [liE, letsOf, letU, snd, List.append_nil]); rfl) (.ite (fun h1 => .ret rfl ?_) (fun h1 => ?_)))
  · simp only [List.mem_cons, List.not_mem_nil, or_false]
    rintro x rfl
    exact hC.mono g.R
  · ((try simp only [evE, liE, letsOf, letU, snd] at h1); (try simp only [cmE] at h1))
    replace h1 : chkM ms [C.w] ≠ 0 := h1
    have : extW ms C.w = ([], 0, chkM ms [C.w]) := by unfold extW; rw [if_pos h1]
    rw [this]; exact ⟨none, 0, rfl, .of (Row.nil _ _ _)⟩
  ((try simp only [evE, liE, letsOf, letU, snd] at h1); (try simp only [cmE] at h1))
  replace h1 : chkM ms [C.w] = 0 := h1
  rw [show chkM ms (List.map (fun x : WD => x.w) [C]) = 0 from h1]
  obtain ⟨l0, l1, l2⟩ := chkM_all h1
  simp only [List.mem_cons, List.not_mem_nil, or_false, forall_eq] at l2
  have he : extW ms C.w = (if (bestE ms ms C.w).2 = 0 then ([], 0, 5) else ((bestE ms ms C.w).1, (((bestE ms ms C.w).2 : Nat) : Int), 0) : List Snd × Int × Int) := by unfold extW; rw [if_neg (by simp [h1])]
  rw [he]
  refine .loop (fun n us mm => ∃ (j : Nat) (q : Option Addr) (cq : Nat) (s : List Snd × Nat), us = [.p q, .i s.1.length, .i cq, .i s.2, .i j] ∧ n + j = ms.length ∧ bestE ms (ms.take j) C.w = s ∧ RowW mm 31 q cq s.1 ∧ s.1.length ≤ 32) ms.length ⟨0, none, 0, ([], 0), rfl, rfl, rfl, .of (Row.nil _ _ _), Nat.zero_le _⟩ ?_
  rintro n _ m _ ⟨j, q, cq, s, rfl, hn, hs, hr, hsl⟩
  refine .env (by (try simp only [liE, letsOf, letU, snd, List.append_nil]); rfl) (.chk (by ((try simp only [evE, liE, letsOf, letU, snd]); (try simp only [cmE])); omega) (.ite (fun h2 => ?_) (fun h2 => ?_))) <;> ((try simp only [evE, liE, letsOf, letU, snd] at h2); (try simp only [cmE] at h2))
  · have hj : j < ms.length := by omega
    have hok := hm _ (List.getElem_mem hj)
    have hat := hM.2 _ (List.getElem_mem hj)
    have hle := l1 _ (List.getElem_mem hj)
    refine .loop (fun n us mm => ∃ (k : Nat) (q : Option Addr) (cq : Nat) (t : List Snd × Nat), us = [.p q, .i t.1.length, .i cq, .i t.2, .i k] ∧ n + k = 2 ∧ ((optsM C.w ms[j]).take k).foldl (stepE (votes ms C.w)) s = t ∧ RowW mm 31 q cq t.1 ∧ t.1.length ≤ 32) 2 ⟨0, q, cq, s, (by (simp only [evE, liE, letsOf, letU, snd, Sh.uss, Sh.us, atAddr, map_add0, List.append_nil]) <;> rfl), rfl, rfl, hr, hsl⟩ ?_
    clear hr
    rintro n1 _ m _ ⟨k, q, cq, t, rfl, hn1, ht, hr, htl⟩
    refine .env (by (try simp only [liE, letsOf, letU, snd, List.append_nil]); rfl) (.ite (fun h3 => ?_) (fun h3 => .again rfl ⟨n - 1, by omega, j + 1, q, cq, t, ?_, by omega, ?_, hr, htl⟩)) <;> ((try simp only [evE, liE, letsOf, letU, snd] at h3); (try simp only [cmE] at h3))
    · have hk : k < 2 := by omega
      have hko : ∃ o, (optsM C.w ms[j])[k]? = some o ∧ (k = 0 → o = solveW ms[j].a.w ms[j].b.w C.w) ∧ (k = 1 → o = frontW ms[j].a.w ms[j].b.w C.w) := by
        obtain rfl | rfl : k = 0 ∨ k = 1 := by omega
        · exact ⟨_, rfl, fun _ => rfl, fun h => by omega⟩
        · exact ⟨_, rfl, fun h => by omega, fun _ => rfl⟩
      obtain ⟨o, hko, hk0, hk1⟩ := hko
      have ht' : ((optsM C.w ms[j]).take (k + 1)).foldl (stepE (votes ms C.w)) s = stepE (votes ms C.w) t o := by
        have hk2 : k < (optsM C.w ms[j]).length := hk
        rw [List.take_succ_eq_append_getElem hk2, List.foldl_append, ht]
        rw [List.getElem?_eq_getElem hk2] at hko
        simp [Option.some.inj hko]
      -- the next
      refine .join (fun us mm => ∃ (q : Option Addr) (cq : Nat), us = [.p q, .i (stepE (votes ms C.w) t o).1.length, .i cq, .i (stepE (votes ms C.w) t o).2] ∧ RowW mm 31 q cq (stepE (votes ms C.w) t o).1) ?_ ?_
      · refine .loadMD2 ms j hj (fun g => hM.1.mono g.R) (fun g => hM.1.mono g.R) (.env (by (try simp only [liE, letsOf, letU, snd, List.append_nil]); rfl) (.callM (c_refSolve0 ms[j].a ms[j].b C hok.2.2.1 hok.2.2.2 oc (by omega) (by omega) (by omega)) rfl rfl (fun g => ⟨hat.1.mono g.R, hat.2.mono g.R, hC.mono g.R⟩) ?_))
        rintro v mq hf ⟨qx, cx, rfl, hx⟩
        replace hx := hx.joinR fun b hb => (hf b hb).1
        replace hr := hr.joinL (mq := mq)
        generalize m.join mq = m1 at *
        refine ⟨[.p qx, .i (((solveW ms[j].a.w ms[j].b.w C.w).getD []).length : Nat), .i (cx : Nat), .b (solveW ms[j].a.w ms[j].b.w C.w).isSome], uOk_of rfl, (opt_fresh _ _ _ _ _ _).symm, .env (by (try simp only [liE, letsOf, letU, snd, List.append_nil]); rfl) ?_⟩
        refine .join (fun us mm => ∃ (qo : Option Addr) (co : Nat), us = [.p qo, .i ((o.getD []).length : Nat), .i co, .b o.isSome] ∧ RowW mm 31 qo co (o.getD []) ∧ RowW mm 31 q cq t.1) (.ite (fun h4 => ?_) (fun h4 => .again rfl ⟨qx, cx, ?_, ?_, hr⟩)) ?_
        · ((try simp only [evE, liE, letsOf, letU, snd] at h4); (try simp only [cmE] at h4))
          have e1 := hk1 (by omega)
          refine .loadMD2 ms j hj (fun g => hM.1.mono g.R) (fun g => hM.1.mono g.R) (.env (by (try simp only [liE, letsOf, letU, snd, List.append_nil]); rfl) (.callM (c_refFront0 ms[j].a ms[j].b C (by omega) (by omega) (by omega)) rfl rfl (fun g => ⟨hat.1.mono g.R, hat.2.mono g.R, hC.mono g.R⟩) ?_))
          rintro v mq2 hf2 ⟨qy, cy, rfl, hy⟩
          rw [← e1] at hy ⊢
          refine ⟨[.p qy, .i ((o.getD []).length : Nat), .i (cy : Nat), .b o.isSome], uOk_of rfl, (opt_fresh _ _ _ _ _ _).symm, .env (by (try simp only [liE, letsOf, letU, snd, List.append_nil]); rfl) (.again rfl ⟨qy, cy, (by (simp only [evE, liE, letsOf, letU, snd, Sh.uss, Sh.us, atAddr, map_add0, List.append_nil]) <;> rfl), hy.joinR fun b hb => (hf2 b hb).1, hr.joinL⟩)⟩
        · ((try simp only [evE, liE, letsOf, letU, snd] at h4); (try simp only [cmE] at h4))
          rw [← hk0 (by omega)]; exact (by (simp only [evE, liE, letsOf, letU, snd, Sh.uss, Sh.us, atAddr, map_add0, List.append_nil]) <;> rfl)
        · ((try simp only [evE, liE, letsOf, letU, snd] at h4); (try simp only [cmE] at h4))
          rw [← hk0 (by omega)] at hx; exact hx
        clear hx hf hr
        rintro _ m2 _ ⟨qo, co, rfl, ho, hr⟩
        refine .env (by (try simp only [liE, letsOf, letU, snd, List.append_nil]); rfl) (.ite (fun h4 => .again rfl ⟨q, cq, ?_, ?_⟩) (fun h4 => .chk (by ((try simp only [evE, liE, letsOf, letU, snd]); (try simp only [cmE])); omega) (.ite (fun h5 => .again rfl ⟨q, cq, ?_, ?_⟩) (fun h5 => ?_))))
        · replace h4 : (!o.isSome) = true := h4
          have : o = none := by cases o <;> simp_all
          subst this; exact (by (simp only [evE, liE, letsOf, letU, snd, Sh.uss, Sh.us, atAddr, map_add0, List.append_nil]) <;> rfl)
        · replace h4 : (!o.isSome) = true := h4
          have : o = none := by cases o <;> simp_all
          subst this; exact hr
        all_goals
          replace h4 : (!o.isSome) = false := h4
          obtain ⟨w, rfl⟩ : ∃ w, o = some w := by cases o <;> simp_all
          ((try simp only [evE, liE, letsOf, letU, snd] at h5); (try simp only [cmE] at h5))
          simp only [Option.getD_some] at h5
        · have : stepE (votes ms C.w) t (some w) = t := if_pos (by omega)
          rw [this]; exact (by (simp only [evE, liE, letsOf, letU, snd, Sh.uss, Sh.us, atAddr, map_add0, List.append_nil]) <;> rfl)
        · have : stepE (votes ms C.w) t (some w) = t := if_pos (by omega)
          rw [this]; exact hr
        have hw : w.length ≤ 32 := by omega
        have hst : stepE (votes ms C.w) t (some w) = if votes ms C.w w > t.2 ∨ (votes ms C.w w = t.2 ∧ ordW w t.1 < 0) then (w, votes ms C.w w) else t := if_neg (by omega)
        refine .callV (c_refCount0 p cp ms C ⟨qo, co, w⟩ hm oc hl l1 (by omega) (by show w.length < _; omega)) (fun g => ⟨hM.mono g.R, hC.mono g.R, ho.reads g⟩) (.env (by (try simp only [liE, letsOf, letU, snd, List.append_nil]); rfl) ?_)
        refine .join (fun us mm => mm = m2 ∧ us = [.b (decide (votes ms C.w w > t.2 ∨ (votes ms C.w w = t.2 ∧ ordW w t.1 < 0)))]) (.ite (fun h6 => .ite (fun h7 => ?_) (fun h7 => .again rfl ⟨rfl, ?_⟩)) (fun h6 => .again rfl ⟨rfl, ?_⟩)) ?_
        · ((try simp only [evE, liE, letsOf, letU, snd] at h6); (try simp only [cmE] at h6)); ((try simp only [evE, liE, letsOf, letU, snd] at h7); (try simp only [cmE] at h7))
          replace h7 : votes ms C.w w = t.2 := by unfold votes; omega
          refine .callV (c_refOrder qo q co cq w t.1 (by omega) (by omega)) (fun g => ⟨ho.reads g, hr.reads g⟩) (.again rfl ⟨rfl, ?_⟩)
          show [U.b (cm .lss (ordW w t.1) 0)] = _
          simp [cm, h7]
        · ((try simp only [evE, liE, letsOf, letU, snd] at h6); (try simp only [cmE] at h6)); ((try simp only [evE, liE, letsOf, letU, snd] at h7); (try simp only [cmE] at h7))
          have h8 : ¬ (votes ms C.w w > t.2 ∨ (votes ms C.w w = t.2 ∧ ordW w t.1 < 0)) := by unfold votes; omega
          (simp only [evE, liE, letsOf, letU, snd, Sh.uss, Sh.us, atAddr, map_add0, List.append_nil]); simp [h8]
        · ((try simp only [evE, liE, letsOf, letU, snd] at h6); (try simp only [cmE] at h6))
          have h8 : votes ms C.w w > t.2 ∨ (votes ms C.w w = t.2 ∧ ordW w t.1 < 0) := by unfold votes; omega
          (simp only [evE, liE, letsOf, letU, snd, Sh.uss, Sh.us, atAddr, map_add0, List.append_nil]); simp [h8]
        rintro _ _ _ ⟨rfl, rfl⟩
        refine .env (by (try simp only [liE, letsOf, letU, snd, List.append_nil]); rfl) ?_
        refine .join (fun us mm => ∃ (q : Option Addr) (cq : Nat), us = [.p q, .i (stepE (votes ms C.w) t (some w)).1.length, .i cq, .i (stepE (votes ms C.w) t (some w)).2] ∧ RowW mm 31 q cq (stepE (votes ms C.w) t (some w)).1) (.ite (fun h6 => .again rfl ⟨qo, co, ?_, ?_⟩) (fun h6 => .again rfl ⟨q, cq, ?_, ?_⟩)) ?_
        · rw [hst, if_pos (of_decide_eq_true h6)]; exact (by (simp only [evE, liE, letsOf, letU, snd, Sh.uss, Sh.us, atAddr, map_add0, List.append_nil]) <;> rfl)
        · rw [hst, if_pos (of_decide_eq_true h6)]; exact ho
        · rw [hst, if_neg (of_decide_eq_false h6)]; exact (by (simp only [evE, liE, letsOf, letU, snd, Sh.uss, Sh.us, atAddr, map_add0, List.append_nil]) <;> rfl)
        · rw [hst, if_neg (of_decide_eq_false h6)]; exact hr
        rintro _ _ _ ⟨q3, c3, rfl, h3⟩
        exact .env (by (try simp only [liE, letsOf, letU, snd, List.append_nil]); rfl) (.again rfl ⟨q3, c3, (by (simp only [evE, liE, letsOf, letU, snd, Sh.uss, Sh.us, atAddr, map_add0, List.append_nil]) <;> rfl), h3⟩)
      rintro _ m3 _ ⟨q3, c3, rfl, h3⟩
      refine .env (by (try simp only [liE, letsOf, letU, snd, List.append_nil]); rfl) (.again rfl ⟨n1 - 1, by omega, k + 1, q3, c3, _, ?_, by omega, ht', h3, stepE_len htl⟩)
      (simp only [evE, liE, letsOf, letU, snd, Sh.uss, Sh.us, atAddr, map_add0, List.append_nil]); rw [add_i64 k (by omega)]
    · (simp only [evE, liE, letsOf, letU, snd, Sh.uss, Sh.us, atAddr, map_add0, List.append_nil]); rw [add_i64 j (by omega)]
    · rw [bestE_snoc hj, hs]
      rw [List.take_of_length_le (show (optsM C.w ms[j]).length ≤ k by show 2 ≤ k; omega)] at ht
      exact ht
  · rw [List.take_of_length_le (by omega)] at hs
    rw [hs]
    refine .ite (fun h3 => .ret rfl ?_) (fun h3 => .ret rfl ?_) <;> ((try simp only [evE, liE, letsOf, letU, snd] at h3); (try simp only [cmE] at h3))
    · rw [if_pos (by omega)]; exact ⟨none, 0, rfl, .of (Row.nil _ _ _)⟩
    · rw [if_neg (by omega)]; exact ⟨q, cq, rfl, hr⟩
end Go.Proofs.YtpbbnmjkbfbelaaDoor
