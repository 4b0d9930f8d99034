/- Layer 22: trees. -/
import Derived.Test.YtkhcfbdjmpodbaaDoorBp
import Derived.Test.YtkhcfbdjmpodbaaDoorPu
import Derived.Test.YtkhcfbdjmpodbaaDoorTg
set_option linter.unusedSimpArgs false
set_option linter.unusedVariables false
/- Layer 22: trees. -/
namespace Go.Sy
open Go Go.RowKit
def strV (bs : List UInt8) : Value := .string ⟨bs.toArray⟩
section
variable {P : Program} {c : Cx} {L : List Nat} {ρ : Env} {blks : List Blk} {m : Mem} {R : Value → HW → Prop} {Dn : Nat → List U → HW → Prop} {A : List (List U → HW → Prop)}
theorem DenM.lenS {t ty : TypeId} {aa : Array Operand} {sv : SV} {k : Tree} (bs : List UInt8) (h : P.underlying t = some .string) (hl : bs.length < 2 ^ 62) (hk : DenM P R Dn k L (ρ ++ [.i bs.length]) c m A) (hv : sv.den L ρ = strV bs := by rfl) : DenM P R Dn (.extp ⟨.call ⟨.builtin .len, aa, #[t]⟩, ty, [sv]⟩ (.int .i64) blks k) L ρ c m A := .extp [.i bs.length] ⟨_, rfl⟩ (fun g w hw => by
  have e1 := getElem_env ρ [.i bs.length] 0
  rw [Nat.add_zero] at e1
  simp only [SV.dens, Sh.fresh, SV.den, IT.eval, Env.int]
  rw [hv, e1]
  show (builtin .len #[t] ty (aa.map fun | .const _ => true | _ => false) #[strV bs]).run P w = _
  have h2 := run_len_string (P := P) w t ty ⟨bs.toArray⟩ h
  have h3 : goInt (⟨bs.toArray⟩ : ByteArray).size = .int .i64 bs.length := rfl
  rw [h3] at h2
  simp only [builtin, strV]
  rw [Sem.run_bind, h2]; rfl) hk
theorem DenM.indexS {t ty : TypeId} {x y : Operand} {sv iv : SV} {k : Tree} (bs : List UInt8) (j : Nat) (hj : j < bs.length) (h : P.underlying t = some .string) (hk : DenM P R Dn k L (ρ ++ [.i (bs[j].toNat : Nat)]) c m A) (hv : sv.den L ρ = strV bs := by rfl) (hi : iv.den L ρ = .int .i64 (j : Nat) := by rfl) : DenM P R Dn (.extp ⟨.index t x y, ty, [sv, iv]⟩ (.int .u8) blks k) L ρ c m A := .extp [.i (bs[j].toNat : Nat)] ⟨_, rfl⟩ (fun g w hw => by
  have e1 := getElem_env ρ [.i (bs[j].toNat : Nat)] 0
  rw [Nat.add_zero] at e1
  simp only [SV.dens, Sh.fresh, SV.den, IT.eval, Env.int]
  rw [hv, hi, e1]
  show (do pure (Next.value (← Instr.index t (strV bs) (.int .i64 (j : Nat)))) : Sem Next).run P w = _
  have h2 := run_index_string (P := P) w t ⟨bs.toArray⟩ .i64 (j : Nat) h
  rw [dif_pos ⟨by omega, by show (j : Int) < (bs.length : Nat); omega⟩] at h2
  rw [Sem.run_bind]
  unfold strV
  rw [h2]; rfl) hk
end
structure ND where
  par : Int
  nm : List UInt8
def ncells (l : List ND) : List Value := l.flatMap fun x => [.int .i64 x.par, strV x.nm]
theorem ncells_len (l : List ND) : (ncells l).length = l.length * 2 := by
  induction l with
  | nil => rfl
  | cons s w ih => simp only [ncells, List.flatMap_cons, List.length_append, List.length_cons] at *; rw [ih]; simp; omega
theorem ncells_at (w : List ND) (j : Nat) (h : j < w.length) : (ncells w)[j * 2]? = some (.int .i64 w[j].par) ∧ (ncells w)[j * 2 + 1]? = some (strV w[j].nm) := by
  induction w generalizing j with
  | nil => simp at h
  | cons s w ih =>
    cases j with
    | zero => exact ⟨rfl, rfl⟩
    | succ j =>
      have := ih j (by simpa using h)
      simp only [ncells, List.flatMap_cons, List.cons_append, List.nil_append] at *
      rw [show (j + 1) * 2 = j * 2 + 2 by omega, show j * 2 + 2 + 1 = (j * 2 + 1) + 2 by omega]
      simpa using this
def letterN (n : Nat) : Bool := decide ((97 ≤ n ∧ n ≤ 122) ∨ (65 ≤ n ∧ n ≤ 90) ∨ (48 ≤ n ∧ n ≤ 57) ∨ n = 45)
def namedB (nm : List UInt8) : Bool := nm.all (fun b => letterN b.toNat) && decide (0 < nm.length ∧ nm.length ≤ 24)
def okND (t : List ND) (i : Nat) : Bool := match t[i]? with
  | none => true
  | some x => decide (x.par < i) && decide (min ((i : Int) - 1) 0 ≤ x.par) && namedB x.nm && !((t.take i).any fun y => y.nm == x.nm)
def treeE (t : List ND) : Int := if t.length = 0 ∨ t.length > 63 then 16 else if (List.range t.length).all (okND t) = true then 0 else 16
section
variable {P : Program} {c : Cx} {L : List Nat} {ρ : Env} {blks : List Blk} {m : Mem} {R : Value → HW → Prop} {Dn : Nat → List U → HW → Prop} {A : List (List U → HW → Prop)}
theorem DenM.loadND {i : Nat} {I len : IT} {k : Tree} (l : List ND) (j : Nat) (hj : j < l.length) (hw : Good c L m → Cells (vw c L ρ blks m) (ρ.ptr i) (ncells l)) (hk : DenM P R Dn k L (ρ ++ [.i l[j].par, .v (strV l[j].nm)]) c m A) (hI : I.eval ρ = (j : Int) := by rfl) (hn : len.eval ρ = (l.length : Int) := by rfl) :
    DenM P R Dn (.chk (.pick (.cmp .geq I (.lit 0)) (.pick (.cmp .lss I len) (.some i) (.lit false)) (.lit false)) (.load i (.off I 2 (.lit 0)) [.int .i64, .val] blks k)) L ρ c m A := by
  have h := ncells_at l j hj
  refine .elem [.i l[j].par, .v (strV l[j].nm)] (ncells l) j l.length hI hn hj rfl hw (by rw [ncells_len]; omega) (fun q v hv => ?_) hk
  have e1 := getElem_env ρ [.i l[j].par, .v (strV l[j].nm)] 0
  have e2 := getElem_env ρ [.i l[j].par, .v (strV l[j].nm)] 1
  rw [Nat.add_zero] at e1
  simp only [Sh.freshs, Sh.fresh, SV.dens, SV.den, IT.eval, Env.int, Env.val, e1, e2] at hv
  match q, hv with
  | 0, hv => simp at hv; rw [← hv]; exact h.1
  | 1, hv => simp at hv; rw [← hv]; exact h.2
  | q + 2, hv => simp at hv
theorem DenM.loadNP {i : Nat} {I len : IT} {k : Tree} (l : List ND) (j : Nat) (hj : j < l.length) (hw : Good c L m → Cells (vw c L ρ blks m) (ρ.ptr i) (ncells l)) (hk : DenM P R Dn k L (ρ ++ [.i l[j].par]) c m A) (hI : I.eval ρ = (j : Int) := by rfl) (hn : len.eval ρ = (l.length : Int) := by rfl) :
    DenM P R Dn (.chk (.pick (.cmp .geq I (.lit 0)) (.pick (.cmp .lss I len) (.some i) (.lit false)) (.lit false)) (.chk (.pick (.cmp .geq (.off I 2 (.lit 0)) (.lit 0)) (.some i) (.lit false)) (.load i (.off I 2 (.lit 0)) [.int .i64] blks k))) L ρ c m A := fun g => by
  have h := ncells_at l j hj
  obtain ⟨b, o, hpe⟩ := (hw g).some (i := j * 2) (by rw [ncells_len]; omega)
  have h1 : (BT.pick (.cmp .geq I (.lit 0)) (.pick (.cmp .lss I len) (.some i) (.lit false)) (.lit false)).eval ρ = true := by
    simp only [BT.eval, IT.eval, hI, hn, hpe, cm, pick_and]; simp; omega
  have h2 : (BT.pick (.cmp .geq (.off I 2 (.lit 0)) (.lit 0)) (.some i) (.lit false)).eval ρ = true := by
    simp only [BT.eval, IT.eval, hI, hpe, cm, pick_and]; simp; omega
  exact DenM.chk h1 (.chk h2 (.load1 (.int .i64 l[j].par) (ρ.ptr i) (ncells l) (j * 2) rfl (by simp only [IT.eval, hI]; simp) hw h.1 hk rfl (by
    have e1 := getElem_env ρ [.i l[j].par] 0
    rw [Nat.add_zero] at e1
    simp only [Sh.freshs, Sh.fresh, SV.dens, SV.den, IT.eval, Env.int, lU]
    rw [e1]; rfl))) g
end
theorem strV_inj {a b : List UInt8} : strV a = strV b ↔ a = b := ⟨fun h => by simpa [strV] using h, fun h => by rw [h]⟩
end Go.Sy
namespace Go.Proofs.YtkhcfbdjmpodbaaDoor
open Go Go.Sy Go.RowKit
theorem c_letter (n : Nat) : Ret Tryd.prog n_tree_letter [.int .u8 (n : Nat)] (.bool (letterN n)) := by
  have fin : ∀ {b : Bool}, (b = true ↔ (97 ≤ n ∧ n ≤ 122) ∨ (65 ≤ n ∧ n ≤ 90) ∨ (48 ≤ n ∧ n ≤ 57) ∨ n = 45) → Value.bool b = Value.bool (letterN n) := fun {b} h => by
    congr 1
    rw [Bool.eq_iff_iff, h]; unfold letterN; simp
  refine Fn.of S_tree_letter mx [.i n] rfl rfl fun c _ => .ite (fun h1 => .ite (fun h2 => .ret rfl (fin ?_)) (fun h2 => .ite (fun h3 => .ite (fun h4 => .ret rfl (fin ?_)) (fun h4 => .ret rfl (fin ?_))) (fun h3 => .ret rfl (fin ?_)))) (fun h1 => .ite (fun h2 => .ite (fun h3 => .ret rfl (fin ?_)) (fun h3 => .ret rfl (fin ?_))) (fun h2 => .ret rfl (fin ?_)))
  all_goals have cl : ∀ x y : Int, cm .leq x y = decide (x ≤ y) := fun _ _ => rfl
  all_goals have ce : ∀ x y : Int, cm .eql x y = decide (x = y) := fun x y => by rw [Bool.eq_iff_iff]; simp [cm]
  all_goals simp only [BT.eval, IT.eval, Env.int, List.getElem?_cons_zero, cl, ce, pick_or, pick_and, Bool.or_eq_true, Bool.and_eq_true, Bool.or_eq_false_iff, Bool.and_eq_false_iff, decide_eq_true_eq, decide_eq_false_iff_not, beq_iff_eq, Bool.or_false, Bool.false_or, Bool.or_true, Bool.and_true, Bool.and_false] at *
  all_goals clear cl ce fin
  all_goals (first | omega | (simp only [true_iff]; omega))
theorem c_tnamed (nm : List UInt8) (hl : nm.length < 2 ^ 62) : Ret Tryd.prog n_tree_named [strV nm] (.bool (namedB nm)) := by
  refine Fn.of S_tree_named mx [.v (strV nm)] rfl rfl fun c _ => .lenS nm Tryd.underlying9 (by omega) (.env (by (try simp only [liE, lO, lU, snd, aN]); rfl) ?_)
  refine .loop (fun n us _ => ∃ (e : Bool) (j : Nat), us = [.b e, .i j] ∧ n + j = nm.length ∧ ∀ b ∈ nm.take j, letterN b.toNat = true) nm.length ⟨false, 0, rfl, rfl, by simp⟩ ?_
  rintro n _ m _ ⟨e, j, rfl, hn, hj⟩
  refine .env (by (try simp only [liE, lO, lU, snd, aN]); rfl) (.ite (fun h1 => ?_) (fun h1 => ?_)) <;> ((try simp only [evE, liE, lO, lU, snd] at h1); (try simp only [cmE] at h1))
  · have hlt : j < nm.length := by omega
    refine .indexS nm j hlt Tryd.underlying9 (.env (by (try simp only [liE, lO, lU, snd, aN]); rfl) (.callV (c_letter nm[j].toNat) (fun _ => trivial) (.env (by (try simp only [liE, lO, lU, snd, aN]); rfl) (.ite (fun h2 => .ret rfl ?_) (fun h2 => .again rfl ⟨n - 1, by omega, e, j + 1, ?_, by omega, ?_⟩)))))
    · replace h2 : (!letterN nm[j].toNat) = true := h2
      have : nm.all (fun b => letterN b.toNat) = false := by
        rw [List.all_eq_false]
        exact ⟨nm[j], List.getElem_mem hlt, by simpa using h2⟩
      unfold namedB
      rw [this]; rfl
    · (simp only [evE, liE, lO, lU, snd, Sh.uss, Sh.us, atAddr, map_add0, List.append_nil]); rw [add_i64 j (by omega)]
    · replace h2 : (!letterN nm[j].toNat) = false := h2
      intro b hb
      rw [List.take_succ_eq_append_getElem hlt] at hb
      rcases List.mem_append.1 hb with hb | hb
      · exact hj b hb
      · simp at hb; subst hb; simpa using h2
  · rw [List.take_of_length_le (by omega)] at hj
    have hall : nm.all (fun b => letterN b.toNat) = true := List.all_eq_true.2 hj
    refine .lenS nm Tryd.underlying9 (by omega) (.env (by (try simp only [liE, lO, lU, snd, aN]); rfl) (.ite (fun h2 => .lenS nm Tryd.underlying9 (by omega) (.env (by (try simp only [liE, lO, lU, snd, aN]); rfl) (.ret rfl ?_))) (fun h2 => .ret rfl ?_))) <;> ((try simp only [evE, liE, lO, lU, snd] at h2); (try simp only [cmE] at h2))
    · unfold namedB
      rw [hall, Bool.true_and]
      show Value.bool (cm .leq (nm.length : Int) 24) = _
      congr 1
      rw [Bool.eq_iff_iff]; simp [cm]; omega
    · unfold namedB
      rw [hall, Bool.true_and, decide_eq_false (by omega)]; rfl
end Go.Proofs.YtkhcfbdjmpodbaaDoor
/- Layer 22: Check. -/
namespace Go.Proofs.YtkhcfbdjmpodbaaDoor
open Go Go.Sy Go.RowKit
theorem zB (w : World) : (zeroValue 4).run Tryd.prog w = .ok (.bool false) w := by
  obtain ⟨i, h1, h2⟩ : ∃ i, Tryd.prog.info? 4 = some i ∧ i.zero = some (.bool false) := by
    have : ((Tryd.prog.info? 4).bind (·.zero)) = some (.bool false) := by kernel_rfl
    cases h : Tryd.prog.info? 4 with
    | none => rw [h] at this; cases this
    | some i => rw [h] at this; exact ⟨i, rfl, this⟩
  exact run_zeroValue' w h1 h2
theorem okND_at {t : List ND} {i : Nat} (hi : i < t.length) : okND t i = (decide (t[i].par < i) && decide (min ((i : Int) - 1) 0 ≤ t[i].par) && namedB t[i].nm && !((t.take i).any fun y => y.nm == t[i].nm)) := by
  unfold okND
  rw [List.getElem?_eq_getElem hi]
theorem treeE_bad {t : List ND} {i : Nat} (hi : i < t.length) (h : okND t i = false) : treeE t = 16 := by
  unfold treeE
  split
  · rfl
  · rw [if_neg]
    intro hall
    rw [List.all_eq_true] at hall
    rw [hall i (List.mem_range.2 hi)] at h; cases h
set_option maxHeartbeats 2000000 in
theorem c_treeCheck (p : Option Addr) (cp : Nat) (t : List ND) (hl : t.length < 2 ^ 62) (hn : ∀ x ∈ t, x.nm.length < 2 ^ 62) : RetP Tryd.prog n_tree_Check [slv p t.length cp] (fun R => Cells R p (ncells t)) (.int .i64 (treeE t)) := by
  refine Fn.of S_tree_Check mx [.p p, .i t.length, .i cp] rfl rfl fun c hp => .chk (by ((try simp only [evE, liE, lO, lU, snd]); (try simp only [cmE])); omega) (.ite (fun h1 => .ret rfl ?_) (fun h1 => .chk (by ((try simp only [evE, liE, lO, lU, snd]); (try simp only [cmE])); omega) (.ite (fun h2 => .ret rfl ?_) (fun h2 => ?_)))) <;> ((try simp only [evE, liE, lO, lU, snd] at h1); (try simp only [cmE] at h1))
  · unfold treeE; rw [if_pos (by omega)]; rfl
  · ((try simp only [evE, liE, lO, lU, snd] at h2); (try simp only [cmE] at h2))
    unfold treeE; rw [if_pos (by omega)]; rfl
  ((try simp only [evE, liE, lO, lU, snd] at h2); (try simp only [cmE] at h2))
  refine .mkMap fun bm hbm hbL => .env (by (try simp only [liE, lO, lU, snd, aN]); rfl) (.chk (by ((try simp only [evE, liE, lO, lU, snd]); (try simp only [cmE])); omega) ?_)
  refine .loop (fun n us mm => ∃ (x : Int) (j : Nat) (es : Array MapEntry) (clock : Nat) (f : Value → Option Value), us = [.i x, .i j] ∧ n + j = t.length ∧ (∀ i, i < j → okND t i = true) ∧ mm bm = some (.map es clock) ∧ MapOk .string es f ∧ ∀ s, f (strV s) = if ((t.take j).any fun y => y.nm == s) = true then some (.bool true) else none) t.length
    ⟨0, 0, #[], 0, fun _ => none, rfl, rfl, fun i hi => by omega, Mem.upd_same .., .empty _, fun s => by simp⟩ ?_
  rintro n _ m _ ⟨x, j, es, clock, f, rfl, hnj, hok, hes, hM, hf⟩
  refine .env (by (try simp only [liE, lO, lU, snd, aN]); rfl) (.ite (fun h3 => ?_) (fun h3 => .ret rfl ?_)) <;> ((try simp only [evE, liE, lO, lU, snd] at h3); (try simp only [cmE] at h3))
  · have hj : j < t.length := by omega
    have hat := okND_at hj
    refine .loadND t j hj (fun g => hp.mono g.R) (.env (by (try simp only [liE, lO, lU, snd, aN]); rfl) (.alloc fun b0 => .ite (fun h4 => .ret rfl ?_) (fun h4 => ?_)))
    · replace h4 : (bif cm .geq t[j].par (j : Int) then true else cm .lss t[j].par (if 0 < ar .sub .i64 (j : Int) 1 then 0 else ar .sub .i64 (j : Int) 1)) = true := h4
      rw [subI (by omega) (by omega), pick_or, Bool.or_eq_true] at h4
      rw [treeE_bad hj (by
        rw [hat]
        simp only [cm, decide_eq_true_eq] at h4
        rcases h4 with h4 | h4
        · rw [decide_eq_false (by omega)]; rfl
        · rw [decide_eq_false (show ¬ min ((j : Int) - 1) 0 ≤ t[j].par by split at h4 <;> omega)]; simp)]
      rfl
    replace h4 : (bif cm .geq t[j].par (j : Int) then true else cm .lss t[j].par (if 0 < ar .sub .i64 (j : Int) 1 then 0 else ar .sub .i64 (j : Int) 1)) = false := h4
    rw [subI (by omega) (by omega), pick_or, Bool.or_eq_false_iff] at h4
    simp only [cm, decide_eq_false_iff_not] at h4
    have k1 : decide (t[j].par < j) = true := decide_eq_true (by omega)
    have k2 : decide (min ((j : Int) - 1) 0 ≤ t[j].par) = true := decide_eq_true (by have := h4.2; split at this <;> omega)
    rw [k1, k2, Bool.true_and, Bool.true_and] at hat
    refine .callV (c_tnamed t[j].nm (hn _ (List.getElem_mem hj))) (fun _ => trivial) (.env (by (try simp only [liE, lO, lU, snd, aN]); rfl) (.ite (fun h5 => .ret rfl ?_) (fun h5 => ?_)))
    · replace h5 : (!namedB t[j].nm) = true := h5
      rw [treeE_bad hj (by rw [hat, show namedB t[j].nm = false by simpa using h5]; rfl)]
      rfl
    replace h5 : (!namedB t[j].nm) = false := h5
    rw [show namedB t[j].nm = true by simpa using h5, Bool.true_and] at hat
    refine .lookupV (.bool false) (strV t[j].nm) es f bm [.b ((t.take j).any fun y => y.nm == t[j].nm)] Tryd.underlying78 Tryd.underlying9 zB rfl trivial (fun g => vw_map g hes) hM ⟨_, rfl⟩ ?_ (.env (by (try simp only [liE, lO, lU, snd, aN]); rfl) (.ite (fun h6 => .ret rfl ?_) (fun h6 => ?_)))
    · rw [hf]
      cases ((t.take j).any fun y => y.nm == t[j].nm) <;> rfl
    · replace h6 : ((t.take j).any fun y => y.nm == t[j].nm) = true := h6
      rw [treeE_bad hj (by rw [hat, h6]; rfl)]
      rfl
    · replace h6 : ((t.take j).any fun y => y.nm == t[j].nm) = false := h6
      rw [h6] at hat
      refine .updateV (strV t[j].nm) (.bool true) es f bm clock Tryd.underlying78 Tryd.underlying9 rfl trivial rfl hes hM (fun es' clock' hM' => .again rfl ⟨n - 1, by omega, x, j + 1, es', clock', _, ?_, by omega, fun i hi => ?_, Mem.upd_same .., hM', fun s => ?_⟩)
      · (simp only [evE, liE, lO, lU, snd, Sh.uss, Sh.us, atAddr, map_add0, List.append_nil]); rw [add_i64 j (by omega)]
      · rcases Nat.lt_or_ge i j with h | h
        · exact hok i h
        · have : i = j := by omega
          subst this; rw [hat]; rfl
      · rw [List.take_succ_eq_append_getElem hj, List.any_append]
        by_cases e : s = t[j].nm
        · subst e
          rw [updF_same]; simp
        · rw [updF_other f _ (fun h => e (strV_inj.1 h)), hf]
          have : ([t[j]].any fun y => y.nm == s) = false := by simp; exact fun h => e h.symm
          rw [this, Bool.or_false]
  · unfold treeE
    rw [if_neg (by omega), if_pos (List.all_eq_true.2 fun i hi => hok i (by have := List.mem_range.1 hi; omega))]; rfl
theorem treeE_ok {t : List ND} (h : treeE t = 0) : 0 < t.length ∧ t.length ≤ 63 ∧ ∀ i (hi : i < t.length), t[i].par < i ∧ (0 < i → 0 ≤ t[i].par) := by
  unfold treeE at h
  split at h
  · cases h
  · rename_i h1
    split at h
    · rename_i h2
      refine ⟨by omega, by omega, fun i hi => ?_⟩
      have := List.all_eq_true.1 h2 i (List.mem_range.2 hi)
      rw [okND_at hi] at this
      simp only [Bool.and_eq_true, decide_eq_true_eq] at this
      exact ⟨this.1.1.1, fun h0 => by have := this.1.1.2; omega⟩
    · cases h
end Go.Proofs.YtkhcfbdjmpodbaaDoor
/- Layer 22: families and leaves. -/
namespace Go.Sy
open Go Go.RowKit
theorem rowAt {m : Mem} {e : TypeId} {s : Nat} {q : Option Addr} {cap n g : Nat} {xs : List Value} (h : Row m e s q cap n xs) (hq : q = some ⟨g, 0, none⟩) : ∃ cur, m g = some (.cells cur e (0, 0)) := by
  rcases h.2 with ⟨k, _⟩ | ⟨g', cur, k, hc, _⟩
  · rw [k] at hq; cases hq
  · rw [k] at hq; cases hq; exact ⟨cur, hc⟩
theorem Tab.app {m m1 m2 : Mem} {eo ei : TypeId} {kd : IntKind} {q : Option Addr} {cap : Nat} {rs : List RD} (h : Tab m eo ei kd q cap rs) {u : Nat} (hu : u < rs.length) {q' : Option Addr} {cap' g : Nat} {x : Int} (hr : Row m1 ei 1 q' cap' (rs[u].v.length + 1) (rs[u].v.map (.int kd) ++ [.int kd x]))
    (hk : ∀ b, ((∃ o, rs[u].p = some ⟨b, o, none⟩) → rs[u].cap < rs[u].v.length + 1) → m b ≠ none → m1 b = m b) (hq' : q' = rs[u].p ∨ ∃ g, q' = some ⟨g, 0, none⟩ ∧ m g = none) (hq : q = some ⟨g, 0, none⟩)
    (ho : Row m2 eo 1 q cap rs.length ((rs.map RD.s).set u (slv q' (rs[u].v.length + 1) cap'))) (hs : ∀ b, b ≠ g → m2 b = m1 b) : Tab m2 eo ei kd q cap (rs.set u ⟨q', cap', rs[u].v ++ [x]⟩) := by
  have hiu := h.inn _ (List.getElem_mem hu)
  have hout1 : Row m1 eo 1 q cap rs.length (rs.map RD.s) := h.out.keepA hiu h.ne hk
  have hp0 : ∀ b o, rs[u].p = some ⟨b, o, none⟩ → o = 0 := fun b o hb => by
    rcases hiu.2 with ⟨k, _⟩ | ⟨g, _, k, _⟩
    · rw [k] at hb; cases hb
    · rw [k] at hb; cases hb; rfl
  have hold : ∀ i (hi : i < rs.length), i ≠ u → Row m1 ei 1 rs[i].p rs[i].cap rs[i].v.length (rs[i].v.map (.int kd)) := fun i hi hne => (h.inn _ (List.getElem_mem hi)).keep fun b hb hb' => hk b (fun ⟨o, hob⟩ => by
    have := hp0 b o hob
    subst this
    exact absurd hob (h.apart i u hi hu b hne hb)) hb'
  have keep2 : ∀ {q2 : Option Addr} {c2 n2 : Nat} {xs : List Value}, Row m1 ei 1 q2 c2 n2 xs → Row m2 ei 1 q2 c2 n2 xs := fun hy => hy.keep fun b hb _ => hs b fun e => hy.apart hout1 (fun e' => h.ne e'.symm) b hb (by rw [hq, e])
  have hfar : ∀ i (hi : i < rs.length), i ≠ u → ∀ b, rs[i].p = some ⟨b, 0, none⟩ → q' ≠ some ⟨b, 0, none⟩ := fun i hi hne b hb hb' => by
    rcases hq' with e | ⟨g', e, hg'⟩
    · rw [e] at hb'; exact h.apart i u hi hu b hne hb hb'
    · rw [e] at hb'; cases hb'
      obtain ⟨cur, hcur⟩ := rowAt (h.inn _ (List.getElem_mem hi)) hb
      rw [hcur] at hg'; cases hg'
  refine ⟨?_, fun y hy => ?_, fun i k hi hk b hne hp => ?_, h.ne⟩
  · rw [List.length_set, List.map_set]
    show Row m2 eo 1 q cap rs.length ((rs.map RD.s).set u (slv q' (rs[u].v ++ [x]).length cap'))
    rw [List.length_append]; exact ho
  · obtain ⟨i, hi, rfl⟩ := List.mem_iff_getElem.1 hy
    rw [List.length_set] at hi
    rw [List.getElem_set]
    split
    · show Row m2 ei 1 q' cap' (rs[u].v ++ [x]).length ((rs[u].v ++ [x]).map (.int kd))
      rw [List.length_append, List.map_append]; exact keep2 hr
    · rename_i hne
      exact keep2 (hold i hi (fun e => hne e.symm))
  · rw [List.length_set] at hi hk
    rw [List.getElem_set] at hp ⊢
    split at hp
    · split
      · omega
      · rename_i h1 h2
        intro h3
        exact hfar k hk (fun e => h2 e.symm) b h3 hp
    · split
      · rename_i h1 h2
        exact fun h3 => hfar i hi (fun e => h1 e.symm) b hp h3
      · exact h.apart i k hi hk b hne hp
def hasKid (t : List ND) (k v : Nat) : Bool := (List.range k).any fun i => decide (0 < i) && decide (t[i]?.map ND.par = some (v : Int))
theorem hasKid_succ (t : List ND) (k v : Nat) : hasKid t (k + 1) v = (hasKid t k v || (decide (0 < k) && decide (t[k]?.map ND.par = some (v : Int)))) := by
  unfold hasKid
  rw [List.range_succ, List.any_append]; simp
def leavesL (t : List ND) : List Int := ((List.range t.length).filter fun v => !hasKid t t.length v).map fun (v : Nat) => (v : Int)
end Go.Sy
namespace Go.Proofs.YtkhcfbdjmpodbaaDoor
open Go Go.Sy Go.RowKit
theorem elN : El Tryd.prog 29 3 1 8 := El.of (by kernel_rfl)
structure RowN (m : Mem) (q : Option Addr) (cq : Nat) (l : List Int) : Prop where
  row : Row m 3 1 q cq l.length (l.map (.int .i64))
set_option maxHeartbeats 2000000 in
theorem c_families (p : Option Addr) (cp : Nat) (t : List ND) (hE : treeE t = 0) : FnM Tryd.prog n_tree_families [slv p t.length cp] (fun R => Cells R p (ncells t)) fun v mq _ => ∃ g rs, v = slv (some ⟨g, 0, none⟩) t.length t.length ∧ Tab mq 29 3 .i64 (some ⟨g, 0, none⟩) t.length rs ∧ rs.length = t.length ∧
    ∀ v (hv : v < rs.length), (rs[v].v = [] ↔ hasKid t t.length v = false) := by
  obtain ⟨h0, h63, hpar⟩ := treeE_ok hE
  refine FnM.of S_tree_families mx [.p p, .i t.length, .i cp] rfl rfl fun c hp => .chk (by ((try simp only [evE, liE, lO, lU, snd]); (try simp only [cmE])); omega) (.make (z := .slice none 0 0) (bytes := 24) t.length Tryd.underlying59 (by kernel_rfl) rfl (by omega) (by simp [maxLen]; omega) (fun g hg hrow => ?_))
  have hT : Tab (Mem.emp.upd g (.cells (madeCells #[.slice none 0 0] t.length) 29 (0, 0))) 29 3 .i64 (some ⟨g, 0, none⟩) t.length (List.replicate t.length ⟨none, 0, []⟩) := ⟨by rw [List.length_replicate, List.map_replicate]; exact hrow, fun r hr => by rw [List.eq_of_mem_replicate hr]; exact Row.nil _ _ _, fun i j hi hj b hne hp => by simp at hp, by decide⟩
  generalize Mem.upd _ g _ = m0 at hT ⊢
  clear hrow hg
  refine .env (by (try simp only [liE, lO, lU, snd, aN]); rfl) (.chk (by ((try simp only [evE, liE, lO, lU, snd]); (try simp only [cmE])); omega) ?_)
  refine .loop (fun n us mm => ∃ (i : Nat) (rs : List RD), us = [.i i] ∧ n + i = t.length ∧ Tab mm 29 3 .i64 (some ⟨g, 0, none⟩) t.length rs ∧ rs.length = t.length ∧ ∀ v (hv : v < rs.length), (rs[v].v = [] ↔ hasKid t i v = false) ∧ rs[v].v.length ≤ i) t.length
    ⟨0, _, rfl, rfl, hT, by simp, fun v hv => by simp [hasKid]⟩ ?_
  clear hT
  rintro n _ m _ ⟨i, rs, rfl, hn, hT, hrl, hk⟩
  refine .env (by (try simp only [liE, lO, lU, snd, aN]); rfl) (.ite (fun h1 => ?_) (fun h1 => .ret rfl ⟨g, rs, rfl, hT, hrl, fun v hv => by rw [show t.length = i by ((try simp only [evE, liE, lO, lU, snd] at h1); (try simp only [cmE] at h1)); omega]; exact (hk v hv).1⟩)) <;> ((try simp only [evE, liE, lO, lU, snd] at h1); (try simp only [cmE] at h1))
  have hi : i < t.length := by omega
  obtain ⟨hp1, hp2⟩ := hpar i hi
  refine .loadND t i hi (fun g => hp.mono g.R) (.env (by (try simp only [liE, lO, lU, snd, aN]); rfl) (.alloc fun b0 => .ite (fun h2 => ?_) (fun h2 => .again rfl ⟨n - 1, by omega, i + 1, rs, ?_, by omega, hT, hrl, fun v hv => ?_⟩))) <;> ((try simp only [evE, liE, lO, lU, snd] at h2); (try simp only [cmE] at h2))
  · obtain ⟨u, hu⟩ := Int.eq_ofNat_of_zero_le (hp2 (by omega))
    have hul : u < rs.length := by omega
    have hlen := (hk u hul).2
    rw [hu]
    refine .loadSl (rs.map RD.s) u rs.length rs[u].p rs[u].v.length rs[u].cap hul (by rw [List.getElem?_map, List.getElem?_eq_getElem hul]; rfl) (fun g => hT.out.reads g) (.env (by (try simp only [liE, lO, lU, snd, aN]); rfl) ?_) rfl (by show (t.length : Int) = _; rw [hrl])
    refine .alloc fun b1 => .append (n := rs[u].v.length) (kx := 1) (qx := some ⟨b1, 0, none⟩) (capx := 1) (news := [.int .i64 i]) elN (hT.inn _ (List.getElem_mem hul)) (fun g => g.cells (j := 1) rfl rfl rfl) rfl (by simp [Value.oneCell']) (fun h => by cases h) (by simp [maxLen]; omega) (by omega) (fun q3 k3 m3 hr3 hk3 hq3 => .env (by (try simp only [liE, lO, lU, snd, aN]); rfl) ?_)
    have hout3 : Row m3 29 1 (some ⟨g, 0, none⟩) t.length rs.length (rs.map RD.s) := hT.out.keepA (hT.inn _ (List.getElem_mem hul)) hT.ne hk3
    refine .storeR u (by omega) hout3 rfl rfl (by show (t.length : Int) = _; rw [hrl]) fun m4 g4 hg4 hr4 hs4 => .again rfl ⟨n - 1, by omega, i + 1, rs.set u ⟨q3, k3, rs[u].v ++ [(i : Int)]⟩, ?_, by omega, ?_, by rw [List.length_set]; exact hrl, fun v hv => ?_⟩
    · (simp only [evE, liE, lO, lU, snd, Sh.uss, Sh.us, atAddr, map_add0, List.append_nil]); rw [add_i64 i (by omega)]
    · cases hg4
      refine hT.app hul hr3 hk3 hq3 rfl ?_ hs4
      exact hr4
    · rw [List.length_set] at hv
      rw [List.getElem_set, hasKid_succ, List.getElem?_eq_getElem hi, Option.map_some, hu]
      split
      · rename_i e; subst e
        refine ⟨?_, by simp; omega⟩
        simp
        omega
      · rename_i e
        have := hk v hv
        refine ⟨?_, by omega⟩
        rw [this.1]
        simp
        intro _ _
        omega
  · (simp only [evE, liE, lO, lU, snd, Sh.uss, Sh.us, atAddr, map_add0, List.append_nil]); rw [add_i64 i (by omega)]
  · have := hk v hv
    rw [hasKid_succ, decide_eq_false (by omega)]
    simp only [Bool.false_and, Bool.or_false]
    exact ⟨this.1, by omega⟩
end Go.Proofs.YtkhcfbdjmpodbaaDoor
/- Cells of columns. -/
namespace Go.Sy
open Go Go.RowKit
abbrev CE := Int × Snd
def c3 (x : CE) : List Value := [.int .i64 x.1, .int .u32 x.2.1, .int .u32 x.2.2]
def ccells (l : List CE) : List Value := l.flatMap c3
theorem ccells_snoc (l : List CE) (x : CE) : ccells (l ++ [x]) = ccells l ++ c3 x := by unfold ccells; rw [List.flatMap_append]; simp
theorem ccells_cons (x : CE) (l : List CE) : ccells (x :: l) = c3 x ++ ccells l := rfl
theorem ccells_len (l : List CE) : (ccells l).length = l.length * 3 := by
  induction l with
  | nil => rfl
  | cons x l ih => rw [ccells_cons, List.length_append, ih, List.length_cons]; show 3 + _ = _; omega
theorem ccells_at (l : List CE) {j : Nat} (hj : j < l.length) (d : Nat) (hd : d < 3) : (ccells l)[j * 3 + d]? = (c3 l[j])[d]? := by
  induction l generalizing j with
  | nil => simp at hj
  | cons x l ih =>
    rw [ccells_cons]
    cases j with
    | zero => rw [Nat.zero_mul, Nat.zero_add, List.getElem?_append_left (by show d < 3; exact hd)]; rfl
    | succ j =>
      rw [List.getElem?_append_right (by show 3 ≤ _; omega), show (j + 1) * 3 + d - (c3 x).length = j * 3 + d by show (j + 1) * 3 + d - 3 = _; omega, ih (by simpa using hj)]
      rfl
def cellE (w : List Snd) (x : Int) : CE := if x = -1 then (1, (0, 0)) else (2, w.getD x.toNat (0, 0))
structure CR where
  p : Option Addr
  cap : Nat
  l : List CE
def CR.v (r : CR) : Value := slv r.p r.l.length r.cap
def colC (W : List (List Snd)) (col : List Int) : List CE := (List.range W.length).map fun k => cellE (W.getD k []) (labAt col k)
theorem colC_len (W : List (List Snd)) (col : List Int) : (colC W col).length = W.length := by unfold colC; rw [List.length_map, List.length_range]
theorem colC_take (W : List (List Snd)) (col : List Int) {i : Nat} (hi : i < W.length) : (colC W col).take (i + 1) = (colC W col).take i ++ [cellE (W.getD i []) (labAt col i)] := by
  rw [List.take_succ_eq_append_getElem (by rw [colC_len]; exact hi)]
  congr 2
  unfold colC
  rw [List.getElem_map, List.getElem_range]
theorem colC_at (W : List (List Snd)) (col : List Int) {i : Nat} (hi : i < W.length) : (colC W col)[i]'(by rw [colC_len]; exact hi) = cellE (W.getD i []) (labAt col i) := by
  unfold colC
  rw [List.getElem_map, List.getElem_range]
def cellsA (W : List (List Snd)) (cols : List (List Int)) : List (List CE) × Int := if checkA W cols ≠ 0 then ([], checkA W cols) else (cols.map (colC W), 0)
theorem Good.leB {c : Cx} {L : List Nat} {m : Mem} (g : Good c L m) (ρ : Env) (bl : List Blk) (n : Nat) : m.le (blkMem L ρ (L.drop n) bl m) := fun b o hb => by
  rw [blkMem_not (fun hL => by have := (g.blk b (List.mem_of_mem_drop hL)).1; rw [this] at hb; cases hb)]
  exact hb
end Go.Sy
namespace Go.Proofs.YtkhcfbdjmpodbaaDoor
open Go Go.Sy Go.RowKit
theorem elC : El Tryd.prog 38 43 3 16 := El.of (by kernel_rfl)
theorem elCC : El Tryd.prog 34 38 1 24 := El.of (by kernel_rfl)
structure TabC (m : Mem) (q : Option Addr) (cq : Nat) (rs : List CR) : Prop where
  out : Row m 38 1 q cq rs.length (rs.map CR.v)
  rows : ∀ r ∈ rs, Row m 43 3 r.p r.cap r.l.length (ccells r.l)
theorem TabC.nil (m : Mem) : TabC m none 0 [] := ⟨Row.nil m _ 1, fun _ h => by cases h⟩
theorem TabC.le {m m' : Mem} {q : Option Addr} {cq : Nat} {rs : List CR} (h : TabC m q cq rs) (hle : m.le m') : TabC m' q cq rs := ⟨Row.le h.out hle, fun r hr => Row.le (h.rows r hr) hle⟩
theorem TabC.push {m m' : Mem} {q q' : Option Addr} {cq cq' : Nat} {rs : List CR} {r : CR} (h : TabC m q cq rs) (hr : Row m 43 3 r.p r.cap r.l.length (ccells r.l)) (ho : Row m' 38 1 q' cq' (rs.length + 1) (rs.map CR.v ++ [r.v])) (hk : ∀ b, ((∃ o, q = some ⟨b, o, none⟩) → cq < rs.length + 1) → m b ≠ none → m' b = m b) : TabC m' q' cq' (rs ++ [r]) :=
  ⟨by rw [List.length_append, List.map_append]; exact ho, fun x hx => by
    rcases List.mem_append.1 hx with hx | hx
    · exact (h.rows x hx).keepA h.out (by decide) hk
    · rw [List.mem_singleton] at hx; subst hx; exact hr.keepA h.out (by decide) hk⟩
def CellsAt (R : Mv) (q : Option Addr) (rs : List CR) : Prop := Cells R q (rs.map CR.v) ∧ ∀ r ∈ rs, Cells R r.p (ccells r.l)
theorem TabC.reads {m : Mem} {q : Option Addr} {cq : Nat} {rs : List CR} (h : TabC m q cq rs) {c : Cx} {L : List Nat} {ρ : Env} {blks : List Blk} (g : Go.Sy.Good c L m) : CellsAt (vw c L ρ blks m) q rs := ⟨h.out.reads g, fun r hr => (h.rows r hr).reads g⟩
theorem c_cell (p : Option Addr) (cap : Nat) (w : List Snd) (x : Int) (hx : x = -1 ∨ (0 ≤ x ∧ x < w.length)) : RetP Tryd.prog n_multi_cell [slv p w.length cap, .int .i64 x] (fun R => WordAt R p w) (.agg #[.int .i64 (cellE w x).1, .int .u32 (cellE w x).2.1, .int .u32 (cellE w x).2.2]) := by
  refine Fn.of S_multi_cell mx [.p p, .i w.length, .i cap, .i x] rfl rfl fun c hp => .alloc fun b0 => .ite (fun h1 => .ret rfl ?_) (fun h1 => ?_) <;> ((try simp only [evE, liE, lO, lU, snd] at h1); (try simp only [cmE] at h1))
  · unfold cellE; rw [if_pos h1]; rfl
  · obtain ⟨k, rfl⟩ : ∃ k : Nat, x = k := ⟨x.toNat, by omega⟩
    have hk : k < w.length := by omega
    refine .loadW w k hk (fun g => hp.mono g.R) (.env (by (try simp only [liE, lO, lU, snd, aN]); rfl) (.ret rfl ?_))
    unfold cellE
    rw [if_neg h1, Int.toNat_natCast, getD_at _ _ _ hk]; rfl
theorem c3_len (x : CE) : (c3 x).length = 1 * 3 := rfl
theorem c3_one (x : CE) : ∀ u ∈ c3 x, u.oneCell' = true := by
  intro u hu
  simp only [c3, List.mem_cons, List.not_mem_nil, or_false] at hu
  rcases hu with rfl | rfl | rfl <;> rfl
def NewQ (m : Mem) (q : Option Addr) : Prop := ∀ g o, q = some ⟨g, o, none⟩ → m g = none
theorem NewQ.next {m m2 : Mem} {q q' : Option Addr} (h : NewQ m q) (hle : m.le m2) (hq : q' = q ∨ ∃ g, q' = some ⟨g, 0, none⟩ ∧ m2 g = none) : NewQ m q' := fun g o e => by
  rcases hq with rfl | ⟨g', e', hg⟩
  · exact h g o e
  · rw [e'] at e; cases e
    cases hm : m g with
    | none => rfl
    | some x => rw [hle g x hm] at hg; cases hg
theorem keep_new {m m2 m' : Mem} {q : Option Addr} {cap n : Nat} (hle : m.le m2) (h : NewQ m q) (hk : ∀ b, ((∃ o, q = some ⟨b, o, none⟩) → cap < n) → m2 b ≠ none → m' b = m2 b) : m.le m' := fun b o hb => by
  rw [hk b (fun ⟨x, hx⟩ => by rw [h b x hx] at hb; cases hb) (by rw [hle b o hb]; simp)]
  exact hle b o hb
theorem c_Cells (p pc : Option Addr) (cp cc : Nat) (l : List WD) (rs : List IR) (hl : l.length < 2 ^ 62) (hr : rs.length ≤ 1048576) (hok : ∀ x ∈ l, Wok x.w) (hrl : ∀ r ∈ rs, r.l.length < 2 ^ 62) :
    FnM Tryd.prog n_multi_Cells [slv p l.length cp, slv pc rs.length cc] (fun R => WordsAt R p l ∧ RowsAt R pc rs) fun v mq _ => ∃ q cq ts, v = .tuple #[slv q ts.length cq, .int .i64 (cellsA (l.map (·.w)) (rs.map (·.l))).2] ∧ ts.map (·.l) = (cellsA (l.map (·.w)) (rs.map (·.l))).1 ∧ TabC mq q cq ts := by
  have hclen : (rs.map (·.l)).length = rs.length := List.length_map _
  have hwlen : (l.map (·.w)).length = l.length := List.length_map _
  refine FnM.of S_multi_Cells mx [.p p, .i l.length, .i cp, .p pc, .i rs.length, .i cc] rfl rfl fun c hp => .callV (c_Check p pc cp cc l rs hl (by omega) hok hrl) (fun g => ⟨hp.1.mono g.R, hp.2.mono g.R⟩) (.env (by (try simp only [liE, lO, lU, snd, aN]); rfl) (.ite (fun h1 => .ret rfl ?_) (fun h1 => .chk (by ((try simp only [evE, liE, lO, lU, snd]); (try simp only [cmE])); omega) ?_))) <;> ((try simp only [evE, liE, lO, lU, snd] at h1); (try simp only [cmE] at h1))
  · unfold cellsA; rw [if_pos h1]; exact ⟨none, 0, [], rfl, rfl, .nil _⟩
  obtain ⟨_, _, hal⟩ := checkA_zero h1
  have hent := isAl_ent hal
  have hs : cellsA (l.map (·.w)) (rs.map (·.l)) = ((rs.map (·.l)).map (colC (l.map (·.w))), 0) := by unfold cellsA; rw [if_neg (by simp [h1])]
  rw [hs]
  refine .loop (fun z us m => ∃ (q : Option Addr) (cq j : Nat) (ts : List CR), j ≤ rs.length ∧ z = rs.length - j ∧ us = [.p q, .i j, .i cq, .i j] ∧ ts.length = j ∧ ts.map (·.l) = ((rs.map (·.l)).take j).map (colC (l.map (·.w))) ∧ TabC m q cq ts) rs.length ⟨none, 0, 0, [], Nat.zero_le _, rfl, rfl, rfl, rfl, .nil _⟩ ?_
  rintro z _ m _ ⟨q, cq, j, ts, hj, rfl, rfl, htl, hts, hT⟩
  refine .env (by (try simp only [liE, lO, lU, snd, aN]); rfl) (.ite (fun h4 => ?_) (fun h4 => .ret rfl ?_)) <;> ((try simp only [evE, liE, lO, lU, snd] at h4); (try simp only [cmE] at h4))
  · have hj : j < rs.length := by omega
    obtain ⟨hrl1, hre⟩ := hent rs[j].l (List.mem_map_of_mem (List.getElem_mem hj))
    rw [hwlen] at hrl1
    refine .loadSl (rs.map IR.v) j rs.length rs[j].p rs[j].l.length rs[j].cap hj (row_at rs j hj) (fun g => hp.2.1.mono g.R) (.env (by (try simp only [liE, lO, lU, snd, aN]); rfl) (.chk (by ((try simp only [evE, liE, lO, lU, snd]); (try simp only [cmE])); omega) ?_))
    refine .loop (fun z us m2 => ∃ (q2 : Option Addr) (cq2 i : Nat), i ≤ l.length ∧ z = l.length - i ∧ us = [.p q2, .i i, .i cq2, .i i] ∧ m.le m2 ∧ NewQ m q2 ∧ Row m2 43 3 q2 cq2 i (ccells ((colC (l.map (·.w)) rs[j].l).take i))) l.length ⟨none, 0, 0, Nat.zero_le _, rfl, rfl, Mem.le.refl _, nofun, Row.nil ..⟩ ?_
    rintro z2 _ m2 _ ⟨q2, cq2, i, hi, rfl, rfl, hle, hnew, hR⟩
    refine .env (by (try simp only [liE, lO, lU, snd, aN]); rfl) (.ite (fun h5 => ?_) (fun h5 => ?_)) <;> ((try simp only [evE, liE, lO, lU, snd] at h5); (try simp only [cmE] at h5))
    · have hi : i < l.length := by omega
      have hx := hre i (by omega)
      rw [wl_at l hi] at hx
      refine .elem1 (.int .i64 (labAt rs[j].l i)) (intsL rs[j].l) i rs[j].l.length rfl rfl (by omega) (fun g => (hp.2.2 _ (List.getElem_mem hj)).mono g.R) (intsL_at rs[j].l i (by omega)) (.env (by (try simp only [liE, lO, lU, snd, aN]); rfl) (.loadWD l i hi (fun g => hp.1.1.mono g.R) (.env (by (try simp only [liE, lO, lU, snd, aN]); rfl) (.callV (c_cell l[i].p l[i].cap l[i].w (labAt rs[j].l i) hx) (fun g => (hp.1.2 _ (List.getElem_mem hi)).mono g.R) ?_))))
      refine .env (by (try simp only [liE, lO, lU, snd, aN]); rfl) ?_
      have hst := colC_take (l.map (·.w)) rs[j].l (i := i) (by rw [hwlen]; exact hi)
      rw [getD_w l i hi] at hst
      generalize cellE l[i].w (labAt rs[j].l i) = x at hst ⊢
      refine .alloc' fun b0 _ hb0 _ => .append (q := q2) (cap := cq2) (n := i) (qx := some ⟨b0, 0, none⟩) (kx := 1) (capx := 1) (news := c3 x) elC hR (fun gd => gd.cells (j := 0) rfl rfl rfl) (c3_len x) (c3_one x) (fun h => by cases h) (by simp [maxLen]; omega) (by omega) (fun q' cap' m' hr' hk' hq' => .againL rfl fun gd => ⟨l.length - (i + 1), by omega, q', cap', i + 1, by omega, rfl, ?_, ?_, ?_, ?_⟩)
      · (simp only [evE, liE, lO, lU, snd, Sh.uss, Sh.us, atAddr, map_add0, List.append_nil]); rw [add_i64 i (by omega)]
      · exact (keep_new hle hnew hk').trans (gd.leB _ _ 0)
      · exact hnew.next hle hq'
      · rw [hst, ccells_snoc]
        exact Row.le hr' (gd.leB _ _ 0)
    · obtain rfl : i = l.length := by omega
      have hcl : (colC (l.map (·.w)) rs[j].l).length = l.length := by rw [colC_len, hwlen]
      rw [List.take_of_length_le (by omega)] at hR
      have hT2 := hT.le hle
      have hst : ((rs.map (·.l)).take (j + 1)).map (colC (l.map (·.w))) = ((rs.map (·.l)).take j).map (colC (l.map (·.w))) ++ [colC (l.map (·.w)) rs[j].l] := by
        rw [List.take_succ_eq_append_getElem (by rw [hclen]; exact hj), List.map_append, List.getElem_map]; rfl
      have hout := hT2.out
      rw [htl] at hout
      refine .alloc' fun b0 _ hb0 _ => .append (q := q) (cap := cq) (n := j) (qx := some ⟨b0, 0, none⟩) (kx := 1) (capx := 1) (news := [slv q2 l.length cq2]) elCC hout (fun gd => gd.cells (j := 0) rfl rfl rfl) rfl (by simp [slv, Value.oneCell']) (fun h => by cases h) (by simp [maxLen]; omega) (by omega) (fun q' cap' m' hr' hk' hq' => .againL rfl fun gd => ⟨rs.length - (j + 1), by omega, q', cap', j + 1, ts ++ [⟨q2, cq2, colC (l.map (·.w)) rs[j].l⟩], by omega, rfl, ?_, ?_, ?_, ?_⟩)
      · (simp only [evE, liE, lO, lU, snd, Sh.uss, Sh.us, atAddr, map_add0, List.append_nil]); rw [add_i64 j (by omega)]
      · rw [List.length_append, htl]; rfl
      · rw [hst, List.map_append, hts]; rfl
      · have hT3 : TabC m' q' cap' (ts ++ [⟨q2, cq2, colC (l.map (·.w)) rs[j].l⟩]) := hT2.push (r := ⟨q2, cq2, colC (l.map (·.w)) rs[j].l⟩) (by show Row _ _ _ _ _ (colC (l.map (·.w)) rs[j].l).length _; rw [hcl]; exact hR) (by rw [htl]; show Row _ _ _ _ _ _ (ts.map CR.v ++ [slv q2 (colC (l.map (·.w)) rs[j].l).length cq2]); rw [hcl]; exact hr') (by rw [htl]; exact hk')
        exact hT3.le (gd.leB _ _ 0)
  · obtain rfl : j = rs.length := by omega
    rw [List.take_of_length_le (by rw [hclen]; omega)] at hts
    exact ⟨q, cq, ts, by rw [htl]; rfl, hts, hT⟩
end Go.Proofs.YtkhcfbdjmpodbaaDoor
