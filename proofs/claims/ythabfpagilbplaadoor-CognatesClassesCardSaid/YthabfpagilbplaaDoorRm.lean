/- Chapter 19: the law Classes, walked. -/
import Derived.Test.YthabfpagilbplaaDoorRl
set_option linter.unusedSimpArgs false
set_option linter.unusedVariables false
namespace Go.Sy
open Go Go.RowKit
section
variable {P : Program} {c : Cx} {L : List Nat} {ρ : Env} {blks : List Blk} {m : Mem} {R : Value → HW → Prop} {Dn : Nat → List U → HW → Prop} {A : List (List U → HW → Prop)}
/-- An element of a slice's beginning. -/
theorem DenM.elemM {i : Nat} {I N C : IT} {s : Sh} {k : Tree} (v : Value) (xs : List Value) (j n : Nat) (hI : I.eval ρ = (j : Int)) (hn : N.eval ρ = (n : Int)) (hj : j < n) (hc : Good c L m → Cells (vw c L ρ blks m) (ρ.ptr i) xs) (hx : xs[j]? = some v)
    (hk : DenM P R Dn k L (ρ ++ letU v) c m A) (hus : Sh.eats [s] (letU v) = some [] := by rfl) (hv : SV.dens L (ρ ++ letU v) (Sh.freshs [s] ρ.length).1 = [v] := by rfl) :
    DenM P R Dn (.chk (.pick (.cmp .geq (.ifeq C (.lit 0) (.lit 0) (.lit 0)) (.lit 0)) (.pick (.cmp .geq I (.lit 0)) (.pick (.cmp .lss I N) (.some i) (.lit false)) (.lit false)) (.lit false)) (.load i (.off I 1 (.ifeq C (.lit 0) (.lit 0) (.lit 0))) [s] blks k)) L ρ c m A := fun g => by
  obtain ⟨b, o, hpe⟩ := (hc g).some (List.getElem?_eq_some_iff.1 hx).1
  refine (DenM.chk ?_ (DenM.load1 v (ρ.ptr i) xs j rfl ?_ hc hx hk hus hv)) g
  · simp only [BT.eval, IT.eval, hI, hn, hpe, cm, pick_and]
    simp; omega
  · simp only [IT.eval, hI]; by_cases h : IT.eval ρ C = 0 <;> simp [h]
/-- The test ahead of a slice's first element. -/
theorem DenM.chk0 {i : Nat} {len : IT} {k : Tree} {xs : List Value} {n : Nat} (hn : 0 < n) (hc : Good c L m → Cells (vw c L ρ [] m) (ρ.ptr i) xs) (hl : len.eval ρ = (n : Int)) (hx : xs.length = n) (hk : DenM P R Dn k L ρ c m A) : DenM P R Dn (.chk (.pick (.cmp .lss (.lit 0) len) (.some i) (.lit false)) k) L ρ c m A := fun g => by
  obtain ⟨b, o, hpe⟩ := (hc g).some (show 0 < xs.length by omega)
  refine (DenM.chk ?_ hk) g
  simp only [BT.eval, IT.eval, hl, hpe, cm, pick_and]; simp; omega
end
end Go.Sy
namespace Go.Proofs.YthabfpagilbplaaDoor
open Go Go.Sy Go.RowKit
def u16L (l : List Int) : List Value := l.map (Value.int .u16)
theorem mn_nat (a b : Nat) : (if (b : Int) < (a : Int) then (b : Int) else (a : Int)) = ((min a b : Nat) : Int) := by split <;> omega
theorem l_CognatesClasses (p : Option Addr) (cp : Nat) (l : List Int) (hcp : l.length ≤ cp) (hw : ∀ x ∈ l, 0 ≤ x ∧ x < 65536) : RetP Tryd.prog n_law19_CognatesClasses [slv p l.length cp] (fun R => Cells R p (u16L l) ∧ TabOk R) (.bool true) := by
  have eN : (if (256 : Int) < (l.length : Int) then (256 : Int) else (l.length : Int)) = ((min l.length 256 : Nat) : Int) := mn_nat l.length 256
  refine Fn.of S_law19_CognatesClasses mx [.p p, .i l.length, .i cp] rfl rfl fun c hp => .chk (by ((try simp only [evE, liE, letsOf, letU, snd]); (try simp only [cmE])); omega) (.chk (by ((try simp only [evE, liE, letsOf, letU, snd]); (try simp only [cmE])); rw [eN]; simp; omega) (.chk (by ((try simp only [evE, liE, letsOf, letU, snd]); (try simp only [cmE])); rw [eN]; omega) ?_))
  generalize hNN : min l.length 256 = N at eN
  have hNl : N ≤ l.length := by omega
  have hN256 : N ≤ 256 := by omega
  refine .loop (fun n us m => ∃ (q : Option Addr) (cq : Nat) (xs : List Int), xs.length ≤ N ∧ us = [.p q, .i xs.length, .i cq, .i xs.length] ∧ n = N - xs.length ∧ GoodS xs xs.length ∧ Row m 3 1 q cq xs.length (intsL xs)) N ⟨none, 0, [], Nat.zero_le _, rfl, rfl, (fun j hj => by simp at hj), .nil _ _ _⟩ ?_
  rintro n us m _ ⟨q, cq, xs, hxl, rfl, rfl, hg, hrow⟩
  refine .env (by (try simp only [liE, letsOf, letU, snd, List.append_nil]); rfl) (.ite (fun h1 => ?_) (fun h1 => ?_)) <;> ((try simp only [evE, liE, letsOf, letU, snd] at h1 ); (try simp only [cmE] at h1 ))<;> rw [eN] at h1
  · have hi : xs.length < l.length := by omega
    have hb := hw _ (List.getElem_mem hi)
    have nxt : ∀ {v : Int} {q' : Option Addr} {cq' : Nat} {m' : Mem} {us : List U}, (v = -1 ∨ v = (xs.length : Int) ∨ ∃ k : Nat, v = (k : Int) ∧ k < xs.length ∧ labAt xs k = (k : Int)) → Row m' 3 1 q' cq' (xs.length + 1) (intsL xs ++ [.int .i64 v]) → us = [.p q', .i ((xs.length + 1 : Nat) : Int), .i cq', .i ((xs.length + 1 : Nat) : Int)] → ∃ n', n' < N - xs.length ∧ ∃ (q : Option Addr) (cq : Nat) (ys : List Int), ys.length ≤ N ∧ us = [.p q, .i ys.length, .i cq, .i ys.length] ∧ n' = N - ys.length ∧ GoodS ys ys.length ∧ Row m' 3 1 q cq ys.length (intsL ys) := fun {v q' cq' m' us} hv hr hu => by
      refine ⟨N - (xs.length + 1), by omega, q', cq', xs ++ [v], by simp; omega, by rw [hu]; simp, by simp, ?_, ?_⟩
      · rw [List.length_append]; exact goodS_snoc hg hv
      · rw [List.length_append]; unfold intsL at *; rw [List.map_append]; exact hr
    refine .elemM (.int .u16 l[xs.length]) (u16L l) xs.length N rfl eN (by omega) (fun g => hp.1.mono g.R) (by unfold u16L; rw [List.getElem?_map, List.getElem?_eq_getElem hi]; rfl) (.env (by (try simp only [liE, letsOf, letU, snd, List.append_nil]); rfl) (.ite (fun h2 => ?_) (fun h2 => .ite (fun h3 => ?_) (fun h3 => ?_))))
    · refine .alloc fun b0 => .append (q := q) (cap := cq) (n := xs.length) (qx := some ⟨b0, 0, none⟩) (kx := 1) (capx := 1) (news := [.int .i64 (-1)]) elI hrow (fun g => g.cells (j := 0) rfl rfl rfl) rfl (by simp [Value.oneCell']) (fun h => by cases h) (by simp [maxLen]; omega) (by omega) (fun q' cq' m6 hr6 hk6 hq6 => .again rfl ?_)
      exact nxt (.inl rfl) hr6 (by (simp only [evE, liE, letsOf, letU, snd, Sh.uss, Sh.us, atAddr, map_add0, List.append_nil]); rw [add_i64 xs.length (by omega)])
    · refine .alloc fun b0 => .append (q := q) (cap := cq) (n := xs.length) (qx := some ⟨b0, 0, none⟩) (kx := 1) (capx := 1) (news := [.int .i64 (xs.length : Int)]) elI hrow (fun g => g.cells (j := 0) rfl rfl rfl) rfl (by simp [Value.oneCell']) (fun h => by cases h) (by simp [maxLen]; omega) (by omega) (fun q' cq' m6 hr6 hk6 hq6 => .again rfl ?_)
      exact nxt (.inr (.inl rfl)) hr6 (by (simp only [evE, liE, letsOf, letU, snd, Sh.uss, Sh.us, atAddr, map_add0, List.append_nil]); rw [add_i64 xs.length (by omega)])
    · have h0 : xs.length ≠ 0 := fun e => by
        replace h3 : (bif decide (ar .rem .u16 l[xs.length] 5 = 1) then true else decide ((xs.length : Int) = 0)) = false := h3
        rw [decide_eq_true (show (xs.length : Int) = 0 by omega)] at h3
        cases h4 : decide (ar .rem .u16 l[xs.length] 5 = 1) <;> rw [h4] at h3 <;> simp at h3
      obtain ⟨v, hv⟩ := Int.eq_ofNat_of_zero_le hb.1
      have er : ar .rem .i64 (IntKind.i64.wrap l[xs.length]) (xs.length : Int) = ((v % xs.length : Nat) : Int) := by
        rw [hv]
        show (IntKind.i64.wrap (v : Int)).tmod (xs.length : Int) = _
        rw [wrap_i64 (by omega) (by omega)]
        rfl
      have hmod : v % xs.length < xs.length := Nat.mod_lt _ (by omega)
      refine .chk (by ((try simp only [evE, liE, letsOf, letU, snd]); (try simp only [cmE])); omega) (.elem1 (.int .i64 (labAt xs (v % xs.length))) (intsL xs) (v % xs.length) xs.length er rfl hmod (fun g => hrow.reads g) (intsL_at _ _ hmod) (.env (by (try simp only [liE, letsOf, letU, snd, List.append_nil]); rfl) (.ite (fun h4 => ?_) (fun h4 => ?_)))) <;> ((try simp only [evE, liE, letsOf, letU, snd] at h4); (try simp only [cmE] at h4))
      · refine .alloc fun b0 => .append (q := q) (cap := cq) (n := xs.length) (qx := some ⟨b0, 0, none⟩) (kx := 1) (capx := 1) (news := [.int .i64 (xs.length : Int)]) elI hrow (fun g => g.cells (j := 0) rfl rfl rfl) rfl (by simp [Value.oneCell']) (fun h => by cases h) (by simp [maxLen]; omega) (by omega) (fun q' cq' m6 hr6 hk6 hq6 => .again rfl ?_)
        exact nxt (.inr (.inl rfl)) hr6 (by (simp only [evE, liE, letsOf, letU, snd, Sh.uss, Sh.us, atAddr, map_add0, List.append_nil]); rw [add_i64 xs.length (by omega)])
      · refine .chk (by ((try simp only [evE, liE, letsOf, letU, snd]); (try simp only [cmE])); omega) (.elem1 (.int .i64 (labAt xs (v % xs.length))) (intsL xs) (v % xs.length) xs.length er rfl hmod (fun g => hrow.reads g) (intsL_at _ _ hmod) (.env (by (try simp only [liE, letsOf, letU, snd, List.append_nil]); rfl) ?_))
        refine .alloc fun b0 => .append (q := q) (cap := cq) (n := xs.length) (qx := some ⟨b0, 0, none⟩) (kx := 1) (capx := 1) (news := [.int .i64 (labAt xs (v % xs.length))]) elI hrow (fun g => g.cells (j := 0) rfl rfl rfl) rfl (by simp [Value.oneCell']) (fun h => by cases h) (by simp [maxLen]; omega) (by omega) (fun q' cq' m6 hr6 hk6 hq6 => .again rfl ?_)
        refine nxt (.inr (.inr ?_)) hr6 (by (simp only [evE, liE, letsOf, letU, snd, Sh.uss, Sh.us, atAddr, map_add0, List.append_nil]); rw [add_i64 xs.length (by omega)])
        rcases hg (v % xs.length) hmod with h | ⟨k, h5, h6, h7⟩
        · omega
        · exact ⟨k, h5, by omega, h7⟩
  · have hfin : N - xs.length = 0 := by omega
    refine .callM (c_Sets q cq xs (by omega)) rfl rfl (fun g => hrow.reads g) ?_
    rw [setsE_good (by omega) hg]
    rintro v mq hfr ⟨q2, c2, rs, rfl, hrs, hT⟩
    replace hrs : rs.map (·.l) = grpE xs xs.length := hrs
    refine ⟨[.p q2, .i rs.length, .i c2, .i 0], uOk_of rfl, (tab_fresh _ _ _ _ _ _).symm, ?_⟩
    have hT := hT.joinR (m := m) fun b hb => (hfr b hb).1
    have hrow := hrow.joinL (mq := mq)
    generalize m.join mq = m1 at *
    have hlen : rs.length ≤ xs.length := by
      have := congrArg List.length hrs
      rw [List.length_map] at this
      unfold grpE at this
      rw [List.length_map] at this
      have := heads_len xs xs.length
      omega
    refine .env (by (try simp only [liE, letsOf, letU, snd, List.append_nil]); rfl) (.no (by ((try simp only [evE, liE, letsOf, letU, snd]); (try simp only [cmE])) <;> simp) (.chk (by ((try simp only [evE, liE, letsOf, letU, snd]); (try simp only [cmE])); omega) ?_))
    have hgl : (grpE xs xs.length).length = rs.length := by rw [← hrs, List.length_map]
    have hhl : (heads xs xs.length).length = rs.length := by rw [← hgl]; unfold grpE; rw [List.length_map]
    have htot := lens_grp hg
    have hcl := cntL_le xs xs.length
    refine .loop (fun n us m => ∃ (e : Bool) (t : Nat), t ≤ rs.length ∧ us = [.b e, .i (lens ((grpE xs xs.length).take t) : Nat), .i (if t = 0 then -1 else (((heads xs xs.length)[t - 1]?.getD 0 : Nat) : Int)), .i t] ∧ n = rs.length - t ∧ m = m1) rs.length ⟨false, 0, Nat.zero_le _, rfl, rfl, rfl⟩ ?_
    rintro n us m2 _ ⟨e, t, ht, rfl, rfl, rfl⟩
    have hmono := lens_mono (grpE xs xs.length) t
    refine .env (by (try simp only [liE, letsOf, letU, snd, List.append_nil]); rfl) (.ite (fun h2 => ?_) (fun h2 => .chk (by ((try simp only [evE, liE, letsOf, letU, snd]); (try simp only [cmE])); omega) ?_)) <;> ((try simp only [evE, liE, letsOf, letU, snd] at h2); (try simp only [cmE] at h2))
    · have ht : t < rs.length := by omega
      have hkt : t < (heads xs xs.length).length := by omega
      generalize hkk : (heads xs xs.length)[t] = k
      have hkm : k ∈ heads xs xs.length := hkk ▸ List.getElem_mem hkt
      have hkn := (mem_heads.1 hkm).1
      have hrt : rs[t].l = memb xs (k : Int) xs.length := by
        have := congrArg (fun x => x[t]?) hrs
        simp only [List.getElem?_map, List.getElem?_eq_getElem ht, Option.map_some] at this
        unfold grpE at this
        rw [List.getElem?_map, List.getElem?_eq_getElem hkt, hkk] at this
        exact Option.some.inj this
      obtain ⟨hf1, hf2⟩ := memb_first hg hkm
      have hml := memb_len xs (k : Int) xs.length
      have hri : Go.Sy.Good c [] m2 → ∀ {ρ : Env} {bl : List Blk}, Cells (vw c [] ρ bl m2) rs[t].p (intsL (memb xs (k : Int) xs.length)) := fun g {ρ bl} => by rw [← hrt]; exact (hT.rows _ (List.getElem_mem ht)).reads g
      refine .loadSl (rs.map IR.v) t rs.length rs[t].p rs[t].l.length rs[t].cap ht (row_at rs t ht) (fun g => (hT.row (by intro h; rw [h] at ht; simp at ht)).reads g) (.env (by (try simp only [liE, letsOf, letU, snd, List.append_nil]); rfl) ?_)
      rw [hrt]
      generalize hlast : (if t = 0 then (-1 : Int) else (((heads xs xs.length)[t - 1]?.getD 0 : Nat) : Int)) = last
      have hlk : last < (k : Int) := by
        rw [← hlast]
        split
        · omega
        · have h5 : t - 1 < (heads xs xs.length).length := by omega
          have := heads_lt (l := xs) (n := xs.length) (i := t - 1) (j := t) (a := (heads xs xs.length)[t - 1]) (b := k) (by omega) (List.getElem?_eq_getElem h5) (by rw [List.getElem?_eq_getElem hkt, hkk])
          rw [List.getElem?_eq_getElem h5]
          simp only [Option.getD_some]; omega
      have hnext : lens ((grpE xs xs.length).take (t + 1)) = lens ((grpE xs xs.length).take t) + (memb xs (k : Int) xs.length).length := by
        rw [lens_take _ t (by omega)]
        congr 2
        unfold grpE
        rw [List.getElem_map, hkk]
      have hmono2 := lens_mono (grpE xs xs.length) (t + 1)
      have l0 : (intsL (memb xs (k : Int) xs.length))[0]? = some (.int .i64 (k : Int)) := by rw [intsL_at _ _ hf1, hf2]
      have hsrt := c_sorted rs[t].p rs[t].cap (memb xs (k : Int) xs.length) (by omega) (fun i hi => by have := memb_lt (l := xs) (k := (k : Int)) (n := xs.length) (i := i) (j := i + 1) (by omega) hi; omega)
      refine .chk (by ((try simp only [evE, liE, letsOf, letU, snd]); (try simp only [cmE])); omega) (.no (by ((try simp only [evE, liE, letsOf, letU, snd]); (try simp only [cmE])) <;> omega) (.chk0 hf1 (fun g => hri g) rfl (intsL_len _) (.load1 (.int .i64 (k : Int)) rs[t].p _ 0 rfl rfl (fun g => hri g) l0 (.env (by (try simp only [liE, letsOf, letU, snd, List.append_nil]); rfl) (.no (by ((try simp only [evE, liE, letsOf, letU, snd]); (try simp only [cmE])) <;> omega) (.callV hsrt (fun g => hri g) (.env (by (try simp only [liE, letsOf, letU, snd, List.append_nil]); rfl) (.no rfl (.chk0 hf1 (fun g => hri g) rfl (intsL_len _) (.load1 (.int .i64 (k : Int)) rs[t].p _ 0 rfl rfl (fun g => hri g) l0 (.env (by (try simp only [liE, letsOf, letU, snd, List.append_nil]); rfl) (.chk (by ((try simp only [evE, liE, letsOf, letU, snd]); (try simp only [cmE])); omega) ?_))))))))))))
      refine .loop (fun n us m => ∃ (e : Bool) (i : Nat), i ≤ (memb xs (k : Int) xs.length).length ∧ us = [.b e, .i (lens ((grpE xs xs.length).take t) + i : Nat), .i i] ∧ n = (memb xs (k : Int) xs.length).length - i ∧ m = m2) (memb xs (k : Int) xs.length).length ⟨e, 0, Nat.zero_le _, rfl, rfl, rfl⟩ ?_
      rintro n us m3 _ ⟨e, i, hi, rfl, rfl, rfl⟩
      refine .env (by (try simp only [liE, letsOf, letU, snd, List.append_nil]); rfl) (.ite (fun h3 => ?_) (fun h3 => .again rfl ⟨rs.length - (t + 1), by omega, e, t + 1, by omega, ?_, rfl, rfl⟩)) <;> ((try simp only [evE, liE, letsOf, letU, snd] at h3); (try simp only [cmE] at h3))
      · have hi : i < (memb xs (k : Int) xs.length).length := by omega
        obtain ⟨j, hj1, hj2, hj3⟩ := memb_in hi
        refine .elem1 (.int .i64 (labAt (memb xs (k : Int) xs.length) i)) _ i (memb xs (k : Int) xs.length).length rfl rfl hi (fun g => hri g) (intsL_at _ _ hi) (.env (by (try simp only [liE, letsOf, letU, snd, List.append_nil]); rfl) ?_)
        rw [hj3]
        refine .no (by ((try simp only [evE, liE, letsOf, letU, snd]); (try simp only [cmE])) <;> omega) (.chk (by ((try simp only [evE, liE, letsOf, letU, snd]); (try simp only [cmE])); omega) (.no (by ((try simp only [evE, liE, letsOf, letU, snd]); (try simp only [cmE])) <;> omega) (.elem1 (.int .i64 (k : Int)) (intsL xs) j xs.length rfl rfl hj1 (fun g => hrow.reads g) (by rw [intsL_at _ _ hj1, hj2]) (.env (by (try simp only [liE, letsOf, letU, snd, List.append_nil]); rfl) (.chk0 hf1 (fun g => hri g) rfl (intsL_len _) (.load1 (.int .i64 (k : Int)) rs[t].p _ 0 rfl rfl (fun g => hri g) l0 (.env (by (try simp only [liE, letsOf, letU, snd, List.append_nil]); rfl) (.yes (by ((try simp only [evE, liE, letsOf, letU, snd]); (try simp only [cmE])) <;> simp) (.ite (fun h4 => ?_) (fun h4 => ?_)))))))))) <;> ((try simp only [evE, liE, letsOf, letU, snd] at h4); (try simp only [cmE] at h4))
        · obtain ⟨i', rfl⟩ : ∃ i', i = i' + 1 := ⟨i - 1, by omega⟩
          have e1 : ar .sub .i64 ((i' + 1 : Nat) : Int) 1 = (i' : Int) := by rw [show ar .sub .i64 ((i' + 1 : Nat) : Int) 1 = ((i' + 1 : Nat) : Int) - 1 from wrap_i64 (by omega) (by omega)]; omega
          have hlt := memb_lt (l := xs) (k := (k : Int)) (n := xs.length) (i := i') (j := i' + 1) (by omega) hi
          refine .elem1 (.int .i64 (labAt (memb xs (k : Int) xs.length) i')) _ i' (memb xs (k : Int) xs.length).length e1 rfl (by omega) (fun g => hri g) (intsL_at _ _ (by omega)) (.env (by (try simp only [liE, letsOf, letU, snd, List.append_nil]); rfl) (.no (by ((try simp only [evE, liE, letsOf, letU, snd]); (try simp only [cmE])) <;> omega) (.again rfl ⟨_, ?_, e, i' + 1 + 1, by omega, ?_, rfl, rfl⟩)))
          · omega
          · (simp only [evE, liE, letsOf, letU, snd, Sh.uss, Sh.us, atAddr, map_add0, List.append_nil]); rw [add_i64 (i' + 1) (by omega), add_i64 _ (by omega), Nat.add_assoc]
        · refine .again rfl ⟨_, ?_, e, i + 1, by omega, ?_, rfl, rfl⟩
          · omega
          · (simp only [evE, liE, letsOf, letU, snd, Sh.uss, Sh.us, atAddr, map_add0, List.append_nil]); rw [add_i64 i (by omega), add_i64 _ (by omega), Nat.add_assoc]
      · have : i = (memb xs (k : Int) xs.length).length := by omega
        subst this
        (simp only [evE, liE, letsOf, letU, snd, Sh.uss, Sh.us, atAddr, map_add0, List.append_nil]); rw [add_i64 t (by omega), hnext, if_neg (by omega), Nat.add_sub_cancel, List.getElem?_eq_getElem hkt, hkk]; rfl
    · have : t = rs.length := by omega
      subst this
      rw [show (grpE xs xs.length).take rs.length = grpE xs xs.length by rw [← hgl, List.take_length], htot]
      refine .loop (fun n us m => ∃ (t : Nat), t ≤ xs.length ∧ us = [.i (cntL xs xs.length - cntL xs t : Int), .i t] ∧ n = xs.length - t ∧ m = m2) xs.length ⟨0, Nat.zero_le _, ?_, rfl, rfl⟩ ?_
      · show [U.i ((cntL xs xs.length : Nat) : Int), U.i 0] = _
        simp [cntL]
      rintro n us m3 _ ⟨t, ht, rfl, rfl, rfl⟩
      refine .env (by (try simp only [liE, letsOf, letU, snd, List.append_nil]); rfl) (.ite (fun h3 => ?_) (fun h3 => .yes ?_ (.callV c_works (fun g => hp.2.mono g.R) (.ret rfl rfl)))) <;> ((try simp only [evE, liE, letsOf, letU, snd] at h3); (try simp only [cmE] at h3))
      · have ht : t < xs.length := by omega
        have hct := cntL_le xs t
        refine .elem1 (.int .i64 (labAt xs t)) (intsL xs) t xs.length rfl rfl ht (fun g => hrow.reads g) (intsL_at _ _ ht) (.env (by (try simp only [liE, letsOf, letU, snd, List.append_nil]); rfl) (.ite (fun h4 => ?_) (fun h4 => ?_))) <;> ((try simp only [evE, liE, letsOf, letU, snd] at h4); (try simp only [cmE] at h4))
        · refine .again rfl ⟨_, ?_, t + 1, by omega, ?_, rfl, rfl⟩
          · omega
          · (simp only [evE, liE, letsOf, letU, snd, Sh.uss, Sh.us, atAddr, map_add0, List.append_nil]); rw [add_i64 t (by omega), show ar .sub .i64 ((cntL xs xs.length : Int) - (cntL xs t : Int)) 1 = ((cntL xs xs.length : Int) - (cntL xs t : Int)) - 1 from wrap_i64 (by omega) (by omega)]
            simp only [cntL, if_pos h4]
            congr 2; omega
        · refine .again rfl ⟨_, ?_, t + 1, by omega, ?_, rfl, rfl⟩
          · omega
          · (simp only [evE, liE, letsOf, letU, snd, Sh.uss, Sh.us, atAddr, map_add0, List.append_nil]); rw [add_i64 t (by omega)]
            simp only [cntL, if_neg (show ¬ 0 ≤ labAt xs t by omega), Nat.add_zero]
      · have : t = xs.length := by omega
        subst this
        ((try simp only [evE, liE, letsOf, letU, snd]); (try simp only [cmE])); simp
end Go.Proofs.YthabfpagilbplaaDoor
