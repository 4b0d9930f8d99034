/- copy; slices.Repeat. -/
import Derived.Test.YthabfpagilbplaaDoorBl
import Derived.Laws.CopyRow
set_option linter.unusedSimpArgs false
set_option linter.unusedVariables false
namespace Go.Sy
open Go Go.RowKit
theorem run_copy_rowN {P : Program} (w : World) (dT sT ty elem : TypeId) (s g o dLen dCap : Nat) (a : Addr) (sLen sCap : Nat) (cur : Array Value) (t : TypeId) (cs : List Value)
    (hu : P.underlying dT = some (.slice elem)) (hs : (P.info? elem).map (·.size) = some s)
    (hg : w.heap[g]? = some (.cells cur t (0, 0))) (hn : cs.length = Nat.min sLen dLen * s)
    (hsrc : ∀ j v, cs[j]? = some v → w.cell? (a.add j) = some v) (hfit : o + cs.length ≤ cur.size) (h1 : ∀ v ∈ cs, v.oneCell' = true) :
    (Builtin.copy_ #[dT, sT] ty #[.slice (some ⟨g, o, none⟩) dLen dCap, .slice (some a) sLen sCap]).run P w =
      .ok (goInt (Nat.min sLen dLen)) (w.setRow g (cur.toList.take o ++ cs ++ cur.toList.drop (o + cs.length)).toArray) := by
  have hl := run_loadCells_list (P := P) w a cs hsrc
  have hst := run_storeCells_at P g o t cs 0 cur w hg (by simpa using hfit) h1
  cases hq : P.info? elem with
  | none => simp [hq] at hs
  | some i =>
    have hi : i.size = s := by simpa [hq] using hs
    simp [Builtin.copy_, run_underlying hu, Builtin.lenOf, Builtin.firstCells, sizeOf, typeInfo, hq, hi, ← hn, hl, hst]
section
variable {P : Program} {c : Cx} {L : List Nat} {ρ : Env} {blks : List Blk} {m : Mem} {R : Value → HW → Prop} {Dn : Nat → List U → HW → Prop} {A : List (List U → HW → Prop)}
theorem DenM.copyR {aO : Array Operand} {t ty e : TypeId} {sz bytes : Nat} {dv sv : SV} {k : Tree} {g o dn dc sn sc : Nat} {a : Addr} {cur : Array Value} {cs : List Value} (hE : El P t e sz bytes) (hm : m g = some (.cells cur e (0, 0)))
    (hx : Good c L m → Cells (vw c L ρ blks m) (some a) cs) (hn : cs.length = Nat.min sn dn * sz) (hfit : o + cs.length ≤ cur.size) (h1 : ∀ v ∈ cs, v.oneCell' = true)
    (hk : DenM P R Dn k L (ρ ++ [.i (Nat.min sn dn : Nat)]) c (m.upd g (.cells (cur.toList.take o ++ cs ++ cur.toList.drop (o + cs.length)).toArray e (0, 0))) A)
    (hd : dv.den L ρ = .slice (some ⟨g, o, none⟩) dn dc) (hs' : sv.den L ρ = .slice (some a) sn sc) (hs : scBlks ρ.length blks = true := by rfl) :
    DenM P R Dn (.ext false ⟨.call ⟨.builtin .copy, aO, #[t, t]⟩, ty, [dv, sv]⟩ (.int .i64) blks k) L ρ c m A := .extM hs fun gd w hw => by
  obtain ⟨i, z, hi, hz, hsz, hby, hzs⟩ := hE.info
  have hg := hw.hold.2 g _ hm
  have hsrc : ∀ j u, cs[j]? = some u → w.cell? (a.add j) = some u := fun j u hu => by
    obtain ⟨b, o', hc, hr⟩ := hx gd j u hu
    cases hc
    have := vw_cell hw _ _ _ hr
    unfold Mv.of at this
    rw [addr_add]; exact this
  have hrun := run_copy_rowN (P := P) w t t ty e sz g o dn dc a sn sc cur e cs hE.und (by rw [hi]; simp [hsz]) hg hn hsrc hfit h1
  refine ⟨goInt (Nat.min sn dn), w.setRow g (cur.toList.take o ++ cs ++ cur.toList.drop (o + cs.length)).toArray, some g, m.upd g (.cells (cur.toList.take o ++ cs ++ cur.toList.drop (o + cs.length)).toArray e (0, 0)), [.i (Nat.min sn dn : Nat)], ?_, ⟨rfl, rfl, rfl, by simp, fun b _ hb => setRow_other w g b _ fun e' => hb (by rw [e'])⟩, fun g' h => (by cases h; rw [hm]; simp), fun b _ hb => Mem.upd_other _ _ fun e' => hb (by rw [e']), fun b ob hb => ?_, fun h => (by cases h), uOk_of rfl, ?_, hk⟩
  · show (builtin .copy #[t, t] ty (aO.map fun | .const _ => true | _ => false) #[dv.den L ρ, sv.den L ρ]).run P w = _
    rw [hd, hs']
    show (do pure (Next.value (← Builtin.copy_ #[t, t] ty #[.slice (some ⟨g, o, none⟩) dn dc, .slice (some a) sn sc])) : Sem Next).run P w = _
    rw [Sem.run_bind, hrun]; rfl
  · by_cases e' : b = g
    · subst e'
      rw [Mem.upd_same] at hb; cases hb
      exact setRow_heap w b cur _ e _ hg
    · rw [Mem.upd_other _ _ e'] at hb
      rw [setRow_other w g b _ e']; exact hw.hold.2 b ob hb
  · have := getElem_env ρ [.i (Nat.min sn dn : Nat)] 0
    rw [Nat.add_zero] at this
    simp only [Sh.fresh, SV.den, IT.eval, Env.int, this]; rfl
end
def repT (t : TypeId) (mul : FuncId) (sz : Nat) (e : TypeId) (bytes : Nat) (o3 o4 o5 o6 : Operand) (w1 w2 : String) : Tree :=
 (.ite (.cmp .lss (.var 3) (.lit 0))
  (.bad w1)
  (.chk (.cmp .geq (.var 1) (.lit 0))
  (.call false mul [(.int .u64 (.conv .u64 (.var 1))), (.int .u64 (.conv .u64 (.var 3)))] (.tup [(.int .u64), (.int .u64)]) []
  (.ite (.pick (.cmp .gtr (.var 4) (.lit 0)) (.lit true) (.cmp .gtr (.var 5) (.lit 9223372036854775807)))
   (.bad w2)
   (.makev e bytes (.conv .i64 (.var 5)) (.conv .i64 (.var 5))
   (.ext false ⟨(.call ⟨.builtin .copy, #[o3, o4], #[t, t]⟩), 3, [(.sl 6 (.lit 0) (.var 7) (.var 8)), (.sl 0 (.lit 0) (.var 1) (.var 2))]⟩ (.int .i64) []
   (.loop 0 [(.int .i64)] [(.int .i64 (.var 9))] [] []
    (.chk (.cmp .geq (.var 7) (.lit 0))
    (.ite (.cmp .lss (.var 10) (.var 7))
     (.chk (.pick (.cmp .leq (.lit 0) (.var 10)) (.pick (.cmp .leq (.var 10) (.var 7)) (.cmp .leq (.var 7) (.var 8)) (.lit false)) (.lit false))
     (.chk (.pick (.cmp .leq (.lit 0) (.var 10)) (.cmp .leq (.var 10) (.var 8)) (.lit false))
     (.ext false ⟨(.call ⟨.builtin .copy, #[o5, o6], #[t, t]⟩), 3, [(.sl 6 (.ifeq (.var 8) (.var 10) (.lit 0) (.off (.var 10) sz (.lit 0))) (.dif (.var 7) (.var 10)) (.dif (.var 8) (.var 10))), (.sl 6 (.ifeq (.var 8) (.lit 0) (.lit 0) (.lit 0)) (.var 10) (.var 8))]⟩ (.int .i64) []
     (.again 0 0 [(.int .i64)] [(.int .i64 (.bin .add .i64 (.var 10) (.var 11)))] []))))
     (.ret (.sl 6 (.lit 0) (.var 7) (.var 8)) []))))))))))
theorem rep_next {xs R cs : List Value} {j n L : Nat} (hL : xs.length = L) (hL0 : 0 < L) (hR : R.length = n) (hjn : j < n) (hdiv : L ∣ j) (h0 : 0 < j) (hpre : ∀ t, t < j → R[t]? = xs[t % L]?) (hcs : cs = R.take (min j (n - j))) :
    (R.take j ++ cs ++ R.drop (j + cs.length)).length = n ∧ ∀ t, t < j + min j (n - j) → (R.take j ++ cs ++ R.drop (j + cs.length))[t]? = xs[t % L]? := by
  have hcl : cs.length = min j (n - j) := by rw [hcs, List.length_take]; omega
  refine ⟨by simp only [List.length_append, List.length_take, List.length_drop, hcl]; omega, fun t ht => ?_⟩
  rw [List.append_assoc]
  rcases Nat.lt_or_ge t j with h | h
  · rw [List.getElem?_append_left (by rw [List.length_take]; omega), List.getElem?_take_of_lt h]
    exact hpre t h
  · rw [List.getElem?_append_right (by rw [List.length_take]; omega), List.length_take, Nat.min_eq_left (by omega), List.getElem?_append_left (by omega), hcs, List.getElem?_take_of_lt (by omega), hpre _ (by omega)]
    obtain ⟨q, rfl⟩ := hdiv
    rw [show t = (t - L * q) + L * q by omega, Nat.add_mul_mod_self_left]
    congr 1
    rw [Nat.add_sub_cancel]
end Go.Sy
namespace Go.Proofs.YthabfpagilbplaaDoor
open Go Go.Sy Go.RowKit
theorem c_mulW (x y : Nat) (hx : x < 2 ^ 64) (hy : y < 2 ^ 64) : Ret Tryd.prog n_math_bits_Mul [.int .u64 x, .int .u64 y] (.tuple #[.int .u64 (x * y / 2 ^ 64 : Nat), .int .u64 (x * y % 2 ^ 64 : Nat)]) := by
  refine Fn.of S_math_bits_Mul mx [.i x, .i y] rfl rfl fun c _ => .callV (c_mul64 x y hx hy) (fun _ => trivial) (.ret rfl rfl)
theorem repeat_of {f : FuncId} {t e : TypeId} {sz bytes bytesE : Nat} {o3 o4 o5 o6 : Operand} {w1 w2 : String} (S : FnIs Tryd.prog f [.sl, .int .i64] (repT t n_math_bits_Mul sz e bytesE o3 o4 o5 o6 w1 w2)) (hE : El Tryd.prog t e sz bytes)
    (p : Option Addr) (cp k n : Nat) (xs : List Value) (hp0 : p ≠ none) (hk : 0 < k) (hn : 0 < n) (hkn : k * n ≤ 65536) (hx : xs.length = k * sz) (h1 : ∀ v ∈ xs, v.oneCell' = true)
    (mk : ∀ {c : Cx} {L : List Nat} {ρ : Env} {m : Mem} {R : Value → HW → Prop} {Dn : Nat → List U → HW → Prop} {A : List (List U → HW → Prop)} {l d : IT} {kt : Tree} (N : Nat), N ≤ 65536 → (∀ g cur, m g = none → cur.size = N * sz → DenM Tryd.prog R Dn kt L (ρ ++ [.p (some ⟨g, 0, none⟩), .i N, .i N]) c (m.upd g (.cells cur e (0, 0))) A) →
      Value.int .i64 (l.eval ρ) = .int .i64 N → Value.int .i64 (d.eval ρ) = .int .i64 N → DenM Tryd.prog R Dn (.makev e bytesE l d kt) L ρ c m A) :
    FnM Tryd.prog f [slv p k cp, .int .i64 n] (fun R => Cells R p xs) fun v mq _ => ∃ g ys, v = slv (some ⟨g, 0, none⟩) (k * n) (k * n) ∧ Row mq e sz (some ⟨g, 0, none⟩) (k * n) (k * n) ys ∧ ys.length = k * n * sz ∧ ∀ u, u < k * n * sz → ys[u]? = xs[u % (k * sz)]? := by
  have hsz := hE.pos
  have hk64 : k < 65537 := by
    have : k * 1 ≤ k * n := Nat.mul_le_mul_left _ hn
    omega
  have hn64 : n < 65537 := by
    have : 1 * n ≤ k * n := Nat.mul_le_mul_right _ hk
    omega
  have ek : IntKind.u64.wrap (k : Int) = (k : Nat) := u64_wrap (by omega)
  have en : IntKind.u64.wrap (n : Int) = (n : Nat) := u64_wrap (by omega)
  have elo : k * n % 2 ^ 64 = k * n := Nat.mod_eq_of_lt (by omega)
  have ehi : k * n / 2 ^ 64 = 0 := Nat.div_eq_of_lt (by omega)
  have kM := c_mulW k n (by omega) (by omega)
  rw [elo, ehi] at kM
  have hkT : k ≤ k * n := Nat.le_mul_of_pos_right k hn
  generalize k * n = T at *
  obtain ⟨pa, hpa⟩ : ∃ a, p = some a := by cases p with | none => exact absurd rfl hp0 | some a => exact ⟨a, rfl⟩
  subst hpa
  refine FnM.of S mx [.p (some pa), .i k, .i cp, .i n] rfl rfl fun c hp => ?_
  unfold repT
  refine .no (by ((try simp only [evE, liE, lO, lU, snd]); (try simp only [cmE])); omega) (.chk (by ((try simp only [evE, liE, lO, lU, snd]); (try simp only [cmE])); omega) (.callV kM (fun _ => trivial) (.env (by (try simp only [liE, lO, lU, snd, aN]); rfl) (.no ?_ (mk (T) hkn (fun g cur hg hcur => ?_) ?_ ?_))) (hargs := by show [Value.int .u64 (IntKind.u64.wrap (k : Int)), .int .u64 (IntKind.u64.wrap (n : Int))] = _; rw [ek, en])))
  · show (bif decide (((0 : Nat) : Int) > 0) then true else decide (((T : Nat) : Int) > 9223372036854775807)) = false
    rw [decide_eq_false (by omega)]
    exact decide_eq_false (by omega)
  · have hkk : Nat.min k (T) = k := Nat.min_eq_left (hkT)
    refine .env (by (try simp only [liE, lO, lU, snd, aN]); rfl) (.copyR (g := g) (o := 0) (dn := T) (dc := T) (sn := k) (sc := cp) (a := pa) (cs := xs) hE (Mem.upd_same ..) (fun gd => hp.mono gd.R) (by rw [hkk]; exact hx) (by rw [hcur, hx, Nat.zero_add]; exact Nat.mul_le_mul_right _ (hkT)) h1 ?_ ?_ ?_)
    · rw [hkk]
      refine .env (by (try simp only [liE, lO, lU, snd, aN]); rfl) ?_
      have hxk : xs.length ≤ cur.size := by rw [hcur, hx]; exact Nat.mul_le_mul_right _ hkT
      refine .loop (fun q us m => ∃ (j : Nat) (ys : List Value), us = [.i j] ∧ q = T - j ∧ j ≤ T ∧ (j = T ∨ k ∣ j) ∧ 0 < j ∧ m g = some (.cells ys.toArray e (0, 0)) ∧ ys.length = T * sz ∧ (∀ v ∈ ys, v.oneCell' = true ∨ True) ∧ ∀ u, u < j * sz → ys[u]? = xs[u % (k * sz)]?) (T - k) ⟨k, cur.toList.take 0 ++ xs ++ cur.toList.drop (0 + xs.length), rfl, rfl, hkT, .inr (Nat.dvd_refl k), hk, Mem.upd_same .., ?_, fun _ _ => .inr trivial, fun u hu => ?_⟩ ?_
      · have e : cur.toList.length = cur.size := by simp
        rw [List.take_zero, List.nil_append, Nat.zero_add, List.length_append, List.length_drop, e, ← hcur]; omega
      · rw [List.take_zero, List.nil_append, List.getElem?_append_left (by omega), Nat.mod_eq_of_lt (by omega)]
      rintro q us m' _ ⟨j, ys, rfl, rfl, hj, hdv, hj0, hm', hyl, _, hpre⟩
      refine .env (by (try simp only [liE, lO, lU, snd, aN]); rfl) (.chk (by ((try simp only [evE, liE, lO, lU, snd]); (try simp only [cmE])); omega) (.ite (fun h2 => ?_) (fun h2 => .ret (v := slv (some ⟨g, 0, none⟩) (T) (T)) ?_ ?_))) <;> ((try simp only [evE, liE, lO, lU, snd] at h2); (try simp only [cmE] at h2))
      · have hj : j < T := by
          have h2 : (j : Int) < ((T : Nat) : Int) := h2
          omega
        have hkj : k ∣ j := hdv.resolve_left (by omega)
        have hmin : min j (T - j) * sz = min (j * sz) (T * sz - j * sz) := by
          rw [← Nat.sub_mul]
          rcases Nat.le_total j (T - j) with h | h
          · rw [Nat.min_eq_left h, Nat.min_eq_left (Nat.mul_le_mul_right _ h)]
          · rw [Nat.min_eq_right h, Nat.min_eq_right (Nat.mul_le_mul_right _ h)]
        have hjs : j * sz < T * sz := Nat.mul_lt_mul_of_pos_right hj hsz
        have hLj : k * sz ∣ j * sz := Nat.mul_dvd_mul_right hkj sz
        have hj0s : 0 < j * sz := Nat.mul_pos hj0 hsz
        obtain ⟨hn1, hn2⟩ := rep_next (xs := xs) (R := ys) (cs := ys.take (min (j * sz) (T * sz - j * sz))) (j := j * sz) (n := T * sz) (L := k * sz) hx (Nat.mul_pos hk hsz) hyl hjs hLj hj0s hpre rfl
        have hcl : (ys.take (min (j * sz) (T * sz - j * sz))).length = min j (T - j) * sz := by rw [List.length_take, hmin]; omega
        refine .chk (by ((try simp only [evE, liE, lO, lU, snd]); (try simp only [cmE])); simp; omega) (.chk (by ((try simp only [evE, liE, lO, lU, snd]); (try simp only [cmE])); simp; omega) (.copyR (g := g) (o := j * sz) (dn := T - j) (dc := T - j) (sn := j) (sc := T) (a := ⟨g, 0, none⟩) (cs := ys.take (min (j * sz) (T * sz - j * sz))) hE hm' (fun gd => ?_) hcl ?_ (fun v hv => ?_) (.env (by (try simp only [liE, lO, lU, snd, aN]); rfl) (.again rfl ⟨T - (j + min j (T - j)), by omega, j + min j (T - j), ys.take (j * sz) ++ ys.take (min (j * sz) (T * sz - j * sz)) ++ ys.drop (j * sz + (ys.take (min (j * sz) (T * sz - j * sz))).length), ?_, rfl, by omega, ?_, by omega, Mem.upd_same .., hn1, fun _ _ => .inr trivial, fun u hu => hn2 u ?_⟩)) ?_ ?_))
        · have : ∀ {ρ : Env} {bl : List Blk}, Cells (vw c [] ρ bl m') (some ⟨g, 0, none⟩) ys := fun {ρ bl} i v hv => ⟨g, 0, rfl, by rw [vw_mem gd hm', Nat.zero_add]; simpa using hv⟩
          intro i v hv
          exact this i v (by
            rw [List.getElem?_take] at hv
            split at hv
            · exact hv
            · cases hv)
        · rw [hcl, List.size_toArray, hyl, ← Nat.add_mul]; exact Nat.mul_le_mul_right _ (by omega)
        · obtain ⟨i, hi, rfl⟩ := List.mem_iff_getElem.1 hv
          have hi' : i < j * sz := by rw [List.length_take] at hi; omega
          have := hpre i hi'
          rw [List.getElem_take]
          rw [List.getElem?_eq_getElem (by omega)] at this
          exact h1 _ (List.mem_of_getElem? this.symm)
        · (simp only [evE, liE, lO, lU, snd, Sh.uss, Sh.us, atAddr, map_add0, List.append_nil]); rw [show ((Nat.min j (T - j) : Nat) : Int) = ((min j (T - j) : Nat) : Int) from rfl, show ar .add .i64 (j : Int) ((min j (T - j) : Nat) : Int) = ((j + min j (T - j) : Nat) : Int) by rw [show ar .add .i64 (j : Int) ((min j (T - j) : Nat) : Int) = (j : Int) + ((min j (T - j) : Nat) : Int) from wrap_i64 (by omega) (by omega)]; omega]
        · rcases Nat.le_total j (T - j) with h | h
          · rw [Nat.min_eq_left h]
            exact .inr (Nat.dvd_add hkj hkj)
          · rw [Nat.min_eq_right h]
            left; omega
        · rw [← hmin, ← Nat.add_mul]; exact hu
        · show Value.slice ((some (⟨g, 0, none⟩ : Addr)).map fun a => a.add (if ((T : Nat) : Int) = (j : Int) then (0 : Int) else (0 : Int) + (j : Int) * ((sz : Nat) : Int)).toNat) (((T : Nat) : Int) - (j : Int)).toNat (((T : Nat) : Int) - (j : Int)).toNat = _
          rw [if_neg (by omega), show ((0 : Int) + (j : Int) * ((sz : Nat) : Int)).toNat = j * sz by rw [Int.zero_add, ← Int.natCast_mul]; rfl, show (((T : Nat) : Int) - (j : Int)).toNat = T - j by omega]
          simp [addr_add]
        · show Value.slice ((some (⟨g, 0, none⟩ : Addr)).map fun a => a.add (if ((T : Nat) : Int) = (0 : Int) then (0 : Int) else (0 : Int)).toNat) ((j : Int)).toNat (((T : Nat) : Int)).toNat = _
          rw [if_neg (by omega)]; simp [addr_zero]
      · show Value.slice ((some (⟨g, 0, none⟩ : Addr)).map fun a => a.add (0 : Int).toNat) (((T : Nat) : Int)).toNat (((T : Nat) : Int)).toNat = _
        simp [slv, addr_zero]
      · have hje : j = T := by
          have h2 : ((T : Nat) : Int) ≤ (j : Int) := h2
          omega
        subst hje
        exact ⟨g, ys, rfl, ⟨hyl, .inr ⟨g, ys.toArray, rfl, hm', Nat.le_refl _, by unfold maxLen; omega, by rw [List.size_toArray]; exact hyl, by rw [List.toList_toArray, ← hyl, List.take_length]⟩⟩, hyl, hpre⟩
    · show Value.slice ((some (⟨g, 0, none⟩ : Addr)).map fun a => a.add (0 : Int).toNat) (((T : Nat) : Int)).toNat (((T : Nat) : Int)).toNat = _
      simp [addr_zero]
    · show Value.slice ((some pa).map fun a => a.add (0 : Int).toNat) ((k : Int)).toNat ((cp : Int)).toNat = _
      simp [addr_zero]
  · show Value.int .i64 (IntKind.i64.wrap ((T : Nat) : Int)) = _
    rw [wrap_i64 (by omega) (by omega)]
  · show Value.int .i64 (IntKind.i64.wrap ((T : Nat) : Int)) = _
    rw [wrap_i64 (by omega) (by omega)]
end Go.Proofs.YthabfpagilbplaaDoor
