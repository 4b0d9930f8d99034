/- Chapter 30: words, models and rows out of strings. -/
import Derived.Test.YtpbbnmjkbfbelaaDoorJv
import Derived.Laws.StructEq
set_option linter.unusedSimpArgs false
set_option linter.unusedVariables false
namespace Go.Sy
open Go Go.RowKit
section
variable {P : Program} {c : Cx} {L : List Nat} {ρ : Env} {blks : List Blk} {m : Mem} {R : Value → HW → Prop} {Dn : Nat → List U → HW → Prop} {A : List (List U → HW → Prop)}
theorem DenM.lenS {t ty : TypeId} {aa : Array Operand} {sv : SV} {k : Tree} (bs : List UInt8) (h : P.underlying t = some .string) (hl : bs.length < 2 ^ 62) (hk : DenM P R Dn k L (ρ ++ [.i bs.length]) c m A) (hv : sv.den L ρ = strV bs := by rfl) : DenM P R Dn (.extp ⟨.call ⟨.builtin .len, aa, #[t]⟩, ty, [sv]⟩ (.int .i64) blks k) L ρ c m A := .extp [.i bs.length] ⟨_, rfl⟩ (fun g w hw => by
  have e1 := getElem_env ρ [.i bs.length] 0
  rw [Nat.add_zero] at e1
  simp only [SV.dens, Sh.fresh, SV.den, IT.eval, Env.int]
  rw [hv, e1]
  show (builtin .len #[t] ty (aa.map fun | .const _ => true | _ => false) #[strV bs]).run P w = _
  have h2 := run_len_string (P := P) w t ty ⟨bs.toArray⟩ h
  have h3 : goInt (⟨bs.toArray⟩ : ByteArray).size = .int .i64 bs.length := rfl
  rw [h3] at h2
  simp only [builtin, strV]
  rw [Sem.run_bind, h2]; rfl) hk
theorem DenM.indexS {t ty : TypeId} {x y : Operand} {sv iv : SV} {k : Tree} (bs : List UInt8) (j : Nat) (hj : j < bs.length) (h : P.underlying t = some .string) (hk : DenM P R Dn k L (ρ ++ [.i (bs[j].toNat : Nat)]) c m A) (hv : sv.den L ρ = strV bs := by rfl) (hi : iv.den L ρ = .int .i64 (j : Nat) := by rfl) : DenM P R Dn (.extp ⟨.index t x y, ty, [sv, iv]⟩ (.int .u8) blks k) L ρ c m A := .extp [.i (bs[j].toNat : Nat)] ⟨_, rfl⟩ (fun g w hw => by
  have e1 := getElem_env ρ [.i (bs[j].toNat : Nat)] 0
  rw [Nat.add_zero] at e1
  simp only [SV.dens, Sh.fresh, SV.den, IT.eval, Env.int]
  rw [hv, hi, e1]
  show (do pure (Next.value (← Instr.index t (strV bs) (.int .i64 (j : Nat)))) : Sem Next).run P w = _
  have h2 := run_index_string (P := P) w t ⟨bs.toArray⟩ .i64 (j : Nat) h
  rw [dif_pos ⟨by omega, by show (j : Int) < (bs.length : Nat); omega⟩] at h2
  rw [Sem.run_bind]
  unfold strV
  rw [h2]; rfl) hk
end
end Go.Sy
namespace Go.Proofs.YtpbbnmjkbfbelaaDoor
open Go Go.Sy Go.RowKit
theorem c_spell (bs : List UInt8) (hl : bs.length < 2 ^ 30) : FnM Tryd.prog n_law30_spell [strV bs] (fun _ => True) fun v mq _ => ∃ q cq, v = slv q (spellW bs).length cq ∧ RowW mq 31 q cq (spellW bs) := by
  refine FnM.of S_law30_spell mx [.v (strV bs)] rfl rfl fun c _ => ?_
  refine .loop (fun n us mm => ∃ (j : Nat) (q : Option Addr) (cq : Nat), us = [.p q, .i (spellW (bs.take j)).length, .i cq, .i j] ∧ n + j = bs.length ∧ Row mm 31 2 q cq (spellW (bs.take j)).length (wcells (spellW (bs.take j)))) bs.length ⟨0, none, 0, rfl, rfl, Row.nil _ _ _⟩ ?_
  rintro n _ m _ ⟨j, q, cq, rfl, hn, hr⟩
  have hlj : (spellW (bs.take j)).length = j := by simp [spellW]; omega
  refine .env (by (try simp only [liE, letsOf, letU, snd, List.append_nil]); rfl) (.lenS bs Tryd.underlying9 (by omega) (.env (by (try simp only [liE, letsOf, letU, snd, List.append_nil]); rfl) (.ite (fun h1 => ?_) (fun h1 => .ret rfl ?_)))) <;> ((try simp only [evE, liE, letsOf, letU, snd] at h1); (try simp only [cmE] at h1))
  · have hj : j < bs.length := by omega
    have hs : spellW (bs.take (j + 1)) = spellW (bs.take j) ++ [spellB bs[j]] := by unfold spellW; rw [List.take_succ_eq_append_getElem hj, List.map_append]; rfl
    have app : ∀ {aa : Array Operand} {b0 : Nat} {L : List Nat} {ρ : Env} {blks : List Blk} {k : Tree} {sv xv : SV} {A : List (List U → HW → Prop)} {m : Mem} (s : Snd), s = spellB bs[j] → Row m 31 2 q cq (spellW (bs.take j)).length (wcells (spellW (bs.take j))) → (Sy.Good c L m → Cells (vw c L ρ blks m) (some ⟨b0, 0, none⟩) [.int .u32 s.1, .int .u32 s.2]) → sv.den L ρ = slv q (spellW (bs.take j)).length cq → xv.den L ρ = slv (some ⟨b0, 0, none⟩) 1 1 → scBlks ρ.length blks = true →
        (∀ q' cq' m', Row m' 31 2 q' cq' (spellW (bs.take (j + 1))).length (wcells (spellW (bs.take (j + 1)))) → DenM Tryd.prog (outM c fun v m => ∃ q cq, v = slv q (spellW bs).length cq ∧ RowW m 31 q cq (spellW bs)) (fun _ _ _ => False) k L (ρ ++ [.p q', .i (spellW (bs.take (j + 1))).length, .i cq']) c m' A) →
        DenM Tryd.prog (outM c fun v m => ∃ q cq, v = slv q (spellW bs).length cq ∧ RowW m 31 q cq (spellW bs)) (fun _ _ _ => False) (.ext false ⟨.call ⟨.builtin .append, aa, #[22, 22]⟩, 22, [sv, xv]⟩ .sl blks k) L ρ c m A := fun {aa b0 L ρ blks k sv xv A m} s hsp hr hc hsv hxv hsc hk => by
      subst hsp
      refine .append (n := (spellW (bs.take j)).length) (kx := 1) (qx := some ⟨b0, 0, none⟩) (capx := 1) (news := wcells [spellB bs[j]]) el22 hr hc rfl (wcells_one _) (fun h => by cases h) (by simp [maxLen]; omega) (by omega) (fun q' k' m' hr' _ _ => ?_) hsv hxv hsc
      rw [← wcells_append, ← hs] at hr'
      have e : (spellW (bs.take j)).length + 1 = (spellW (bs.take (j + 1))).length := by rw [hs]; simp
      rw [e] at hr' ⊢
      exact hk q' k' m' hr'
    have hI : ∀ {ρ' : Env}, ρ' = ρ' := rfl
    refine .indexS bs j hj Tryd.underlying9 (.env (by (try simp only [liE, letsOf, letU, snd, List.append_nil]); rfl) ?_)
    have hbt : ∀ x : Nat, x < 256 → ((bs[j].toNat : Nat) = x ↔ bs[j] = UInt8.ofNat x) := fun x hx => ⟨fun h => by rw [← h]; simp, fun h => by rw [h]; simp; omega⟩
    refine .join (fun us mm => ∃ (q : Option Addr) (cq : Nat), us = [.p q, .i (spellW (bs.take (j + 1))).length, .i cq] ∧ Row mm 31 2 q cq (spellW (bs.take (j + 1))).length (wcells (spellW (bs.take (j + 1))))) (.ite (fun h2 => .alloc fun b0 => ?_) (fun h2 => ?_)) ?_
    · ((try simp only [evE, liE, letsOf, letU, snd] at h2); (try simp only [cmE] at h2))
      refine app (1, 2) ?_ hr (fun g => g.cells (j := 0) rfl rfl rfl) rfl rfl rfl fun q' cq' m' hr' => .env (by (try simp only [liE, letsOf, letU, snd, List.append_nil]); rfl) (.again rfl ⟨q', cq', (by (simp only [evE, liE, letsOf, letU, snd, Sh.uss, Sh.us, atAddr, map_add0, List.append_nil]) <;> rfl), hr'⟩)
      rw [spellB, if_pos (show bs[j] = 112 from (hbt 112 (by omega)).1 (by omega))]
    · ((try simp only [evE, liE, letsOf, letU, snd] at h2); (try simp only [cmE] at h2))
      have n1 : ¬ bs[j] = 112 := fun h => h2 (by have := (hbt 112 (by omega)).2 h; omega)
      refine .join (fun us mm => ∃ (q : Option Addr) (cq : Nat), us = [.p q, .i (spellW (bs.take (j + 1))).length, .i cq] ∧ Row mm 31 2 q cq (spellW (bs.take (j + 1))).length (wcells (spellW (bs.take (j + 1))))) (.ite (fun h3 => .alloc fun b0 => ?_) (fun h3 => ?_)) ?_
      · ((try simp only [evE, liE, letsOf, letU, snd] at h3); (try simp only [cmE] at h3))
        refine app (2, 1) ?_ hr (fun g => g.cells (j := 0) rfl rfl rfl) rfl rfl rfl fun q' cq' m' hr' => .env (by (try simp only [liE, letsOf, letU, snd, List.append_nil]); rfl) (.again rfl ⟨q', cq', (by (simp only [evE, liE, letsOf, letU, snd, Sh.uss, Sh.us, atAddr, map_add0, List.append_nil]) <;> rfl), hr'⟩)
        rw [spellB, if_neg n1, if_pos (show bs[j] = 97 from (hbt 97 (by omega)).1 (by omega))]
      · ((try simp only [evE, liE, letsOf, letU, snd] at h3); (try simp only [cmE] at h3))
        have n2 : ¬ bs[j] = 97 := fun h => h3 (by have := (hbt 97 (by omega)).2 h; omega)
        refine .join (fun us mm => ∃ (q : Option Addr) (cq : Nat), us = [.p q, .i (spellW (bs.take (j + 1))).length, .i cq] ∧ Row mm 31 2 q cq (spellW (bs.take (j + 1))).length (wcells (spellW (bs.take (j + 1))))) (.ite (fun h4 => .alloc fun b0 => ?_) (fun h4 => ?_)) ?_
        · ((try simp only [evE, liE, letsOf, letU, snd] at h4); (try simp only [cmE] at h4))
          refine app (4, 0) ?_ hr (fun g => g.cells (j := 0) rfl rfl rfl) rfl rfl rfl fun q' cq' m' hr' => .env (by (try simp only [liE, letsOf, letU, snd, List.append_nil]); rfl) (.again rfl ⟨q', cq', (by (simp only [evE, liE, letsOf, letU, snd, Sh.uss, Sh.us, atAddr, map_add0, List.append_nil]) <;> rfl), hr'⟩)
          rw [spellB, if_neg n1, if_neg n2, if_pos (show bs[j] = 116 from (hbt 116 (by omega)).1 (by omega))]
        · ((try simp only [evE, liE, letsOf, letU, snd] at h4); (try simp only [cmE] at h4))
          have n3 : ¬ bs[j] = 116 := fun h => h4 (by have := (hbt 116 (by omega)).2 h; omega)
          refine .join (fun us mm => ∃ (q : Option Addr) (cq : Nat), us = [.p q, .i (spellW (bs.take (j + 1))).length, .i cq] ∧ Row mm 31 2 q cq (spellW (bs.take (j + 1))).length (wcells (spellW (bs.take (j + 1))))) (.ite (fun h5 => .alloc fun b0 => ?_) (fun h5 => .alloc fun b0 => ?_)) ?_
          · ((try simp only [evE, liE, letsOf, letU, snd] at h5); (try simp only [cmE] at h5))
            refine app (6, 1) ?_ hr (fun g => g.cells (j := 0) rfl rfl rfl) rfl rfl rfl fun q' cq' m' hr' => .env (by (try simp only [liE, letsOf, letU, snd, List.append_nil]); rfl) (.again rfl ⟨q', cq', (by (simp only [evE, liE, letsOf, letU, snd, Sh.uss, Sh.us, atAddr, map_add0, List.append_nil]) <;> rfl), hr'⟩)
            rw [spellB, if_neg n1, if_neg n2, if_neg n3, if_pos (show bs[j] = 105 from (hbt 105 (by omega)).1 (by omega))]
          · ((try simp only [evE, liE, letsOf, letU, snd] at h5); (try simp only [cmE] at h5))
            have n4 : ¬ bs[j] = 105 := fun h => h5 (by have := (hbt 105 (by omega)).2 h; omega)
            refine app (0, 4) ?_ hr (fun g => g.cells (j := 0) rfl rfl rfl) rfl rfl rfl fun q' cq' m' hr' => .env (by (try simp only [liE, letsOf, letU, snd, List.append_nil]); rfl) (.again rfl ⟨q', cq', (by (simp only [evE, liE, letsOf, letU, snd, Sh.uss, Sh.us, atAddr, map_add0, List.append_nil]) <;> rfl), hr'⟩)
            rw [spellB, if_neg n1, if_neg n2, if_neg n3, if_neg n4]
          rintro _ m2 _ ⟨q2, cq2, rfl, hr2⟩
          exact .env (by (try simp only [liE, letsOf, letU, snd, List.append_nil]); rfl) (.again rfl ⟨q2, cq2, (by (simp only [evE, liE, letsOf, letU, snd, Sh.uss, Sh.us, atAddr, map_add0, List.append_nil]) <;> rfl), hr2⟩)
        rintro _ m2 _ ⟨q2, cq2, rfl, hr2⟩
        exact .env (by (try simp only [liE, letsOf, letU, snd, List.append_nil]); rfl) (.again rfl ⟨q2, cq2, (by (simp only [evE, liE, letsOf, letU, snd, Sh.uss, Sh.us, atAddr, map_add0, List.append_nil]) <;> rfl), hr2⟩)
      rintro _ m2 _ ⟨q2, cq2, rfl, hr2⟩
      exact .env (by (try simp only [liE, letsOf, letU, snd, List.append_nil]); rfl) (.again rfl ⟨q2, cq2, (by (simp only [evE, liE, letsOf, letU, snd, Sh.uss, Sh.us, atAddr, map_add0, List.append_nil]) <;> rfl), hr2⟩)
    rintro _ m2 _ ⟨q2, cq2, rfl, hr2⟩
    refine .env (by (try simp only [liE, letsOf, letU, snd, List.append_nil]); rfl) (.again rfl ⟨n - 1, by omega, j + 1, q2, cq2, ?_, by omega, hr2⟩)
    (simp only [evE, liE, letsOf, letU, snd, Sh.uss, Sh.us, atAddr, map_add0, List.append_nil]); rw [add_i64 j (by omega)]
  · rw [List.take_of_length_le (by omega)] at hr ⊢
    exact ⟨q, cq, rfl, .of hr⟩
end Go.Proofs.YtpbbnmjkbfbelaaDoor
