/- The contracts of the functions of feats and of its reference that have no loop or answer a number. -/
import Derived.Test.YtkhcfbdjmpodbaaDoorBa
import Derived.Test.YtkhcfbdjmpodbaaDoorTa
import Derived.Test.YtkhcfbdjmpodbaaDoorTn
import Derived.Test.YtkhcfbdjmpodbaaDoorTb
set_option linter.unusedSimpArgs false
set_option linter.unusedVariables false
/- The contracts of the functions of feats and of its reference that have no loop or answer a number. -/
namespace Go.Proofs.YtkhcfbdjmpodbaaDoor
open Go Go.Sy Go.RowKit
theorem mx : Tryd.prog.follows .mixedOrders = true := by kernel_rfl
theorem c_valid (s : Snd) (h : Sok s) : Ret Tryd.prog n_feats_Valid [snd s] (.bool (valid s)) :=
  Fn.of S_feats_Valid mx [.i s.1, .i s.2] rfl rfl fun c _ => .alloc fun _ => .ret rfl (by
    show Value.bool (bif (ar .and .u32 (s.1 : Int) s.2 == 0) then decide (ar .or .u32 (s.1 : Int) s.2 ≤ 16777215) else false) = _
    rw [ar_and _ _ h.1 h.2, ar_or _ _ h.1 h.2, valid]
    congr 1
    cases h : (s.1 &&& s.2 == 0) <;> simp_all <;> omega)
end Go.Proofs.YtkhcfbdjmpodbaaDoor
/- The contracts of the reference's functions on sounds, and the rest of feats without costs. -/
namespace Go.Proofs.YtkhcfbdjmpodbaaDoor
open Go Go.Sy Go.RowKit
end Go.Proofs.YtkhcfbdjmpodbaaDoor
/- The contracts of Meet, Diff, Take, Change, Order and their references; the small ones. -/
namespace Go.Proofs.YtkhcfbdjmpodbaaDoor
open Go Go.Sy Go.RowKit
theorem diffS_lt (s t : Snd) : diffS s t < 2 ^ 24 := by
  unfold diffS
  split
  · rename_i e; simp only [Bool.and_eq_true] at e
    have v := (valid_iff s).1 e.1; have v' := (valid_iff t).1 e.2
    exact Nat.or_lt_two_pow (Nat.xor_lt_two_pow v.2.1 v'.2.1) (Nat.xor_lt_two_pow v.2.2 v'.2.2)
  · simp
theorem c_diff (s t : Snd) (h : Sok s) (h' : Sok t) : Ret Tryd.prog n_feats_Diff [snd s, snd t] (.int .u32 (diffS s t)) := by
  refine Fn.of S_feats_Diff mx [.i s.1, .i s.2, .i t.1, .i t.2] rfl rfl fun c _ => .alloc fun _ => .alloc fun _ => .callV (c_valid s h) (fun _ => trivial) ?_
  refine .ite (fun h1 => .ret rfl ?_) (fun h1 => .callV (c_valid t h') (fun _ => trivial) (.ite (fun h2 => .ret rfl ?_) (fun h2 => .ret rfl ?_))) <;> ((try simp only [evE, liE, lO, lU, snd] at h1); (try simp only [cmE] at h1))
  · simp [diffS, h1]; rfl
  · ((try simp only [evE, liE, lO, lU, snd] at h2); (try simp only [cmE] at h2)); simp [diffS, h2]; rfl
  · ((try simp only [evE, liE, lO, lU, snd] at h2); (try simp only [cmE] at h2))
    show Value.int .u32 (ar .or .u32 (ar .xor .u32 (s.1 : Int) t.1) (ar .xor .u32 (s.2 : Int) t.2)) = _
    rw [ar_xor _ _ h.1 h'.1, ar_xor _ _ h.2 h'.2, ar_or _ _ (Nat.xor_lt_two_pow h.1 h'.1) (Nat.xor_lt_two_pow h.2 h'.2)]; simp [diffS, h1, h2]
end Go.Proofs.YtkhcfbdjmpodbaaDoor
/- The contracts of costs and distances; the features of a set. -/
namespace Go.Proofs.YtkhcfbdjmpodbaaDoor
open Go Go.Sy Go.RowKit
theorem c_checkCosts (p : Option Addr) (cap : Nat) (ws : List Int) (gap : Int) : RetP Tryd.prog n_feats_CheckCosts [costs p ws.length cap gap] (fun R => CostsAt R p ws) (.int .i64 (checkC ws gap)) := by
  refine Fn.of S_feats_CheckCosts mx [.p p, .i ws.length, .i cap, .i gap] rfl rfl fun c hp => .alloc fun _ => .chk (by ((try simp only [evE, liE, lO, lU, snd]); (try simp only [cmE])); omega) (.ite (fun h1 => .ret rfl ?_) (fun h1 => .chk (by ((try simp only [evE, liE, lO, lU, snd]); (try simp only [cmE])); omega) ?_)) <;> ((try simp only [evE, liE, lO, lU, snd] at h1); (try simp only [cmE] at h1))
  · have : ws.length > 24 ∨ gap < 0 ∨ gap > 1073741824 ∨ ws.any badW = true := by omega
    unfold checkC; rw [if_pos this]; ((try simp only [evE, liE, lO, lU, snd]); (try simp only [cmE]))
  refine .loop (fun n us _ => ∃ (x : Int) (j : Nat), us = [.i x, .i j] ∧ n + j = ws.length ∧ ∀ w ∈ ws.take j, badW w = false) ws.length ⟨0, 0, rfl, rfl, by simp⟩ ?_
  rintro n _ m _ ⟨x, j, rfl, hn, hok⟩
  refine .ite (fun h3 => ?_) (fun h3 => .ret rfl ?_) <;> ((try simp only [evE, liE, lO, lU, snd] at h3); (try simp only [cmE] at h3))
  · have hj : j < ws.length := by omega
    obtain ⟨b, o, hpe⟩ := hp.some (i := j) (by simpa using hj)
    refine .chk (by ((try simp only [evE, liE, lO, lU, snd]); (try simp only [cmE])); simp [hpe]; omega) ?_
    refine .load1 (.int .i64 ws[j]) p (ws.map (.int .i64)) j rfl (by simp [IT.eval, Env.int]) (fun g => hp.mono g.R) (by simp [hj]) ?_
    refine .ite (fun h4 => .ret rfl ?_) (fun h4 => .again rfl ⟨n - 1, by omega, x, j + 1, ?_, by omega, ?_⟩) <;> ((try simp only [evE, liE, lO, lU, snd] at h4); (try simp only [cmE] at h4))
    · have : ws.any badW = true := List.any_eq_true.2 ⟨ws[j], List.getElem_mem hj, by simp [badW]; omega⟩
      unfold checkC; rw [if_pos (.inr (.inr (.inr this)))]; ((try simp only [evE, liE, lO, lU, snd]); (try simp only [cmE]))
    · show [U.i x, U.i (ar .add .i64 (j : Int) 1)] = _
      rw [add_i64 j (by omega)]
    · intro w hw
      rw [List.take_succ_eq_append_getElem hj] at hw
      rcases List.mem_append.1 hw with hw | hw
      · exact hok w hw
      · simp at hw; subst hw; simp [badW]; omega
  · have hj : j = ws.length := by omega
    subst hj
    rw [List.take_length] at hok
    have : ¬ (ws.length > 24 ∨ gap < 0 ∨ gap > 1073741824 ∨ ws.any badW = true) := by
      have : ws.any badW = false := by rw [List.any_eq_false]; intro w hw; rw [hok w hw]; simp
      rw [this]; simp; omega
    unfold checkC; rw [if_neg this]; ((try simp only [evE, liE, lO, lU, snd]); (try simp only [cmE]))
/-! The lowest bit. -/
def TabOk (R : Mv) : Prop := ∀ j, j < 32 → R g_math_bits_deBruijn32tab j = some (.int .u8 (tab.getD j 0))
theorem TabOk.mono {R S : Mv} (h : TabOk R) (hle : R.le S) : TabOk S := fun j hj => hle _ _ _ (h j hj)
noncomputable def tabTyOk : Bool := match Tryd.prog.underlying tg_math_bits_deBruijn32tab with
  | some (.array 32 e) => sizeT Tryd.prog e == 1 && (Tryd.prog.info? e).isSome
  | _ => false
theorem tabTy : tabTyOk = true := by kernel_rfl
theorem under_tab : ∃ e, Tryd.prog.underlying tg_math_bits_deBruijn32tab = some (.array 32 e) ∧ sizeT Tryd.prog e = 1 ∧ (Tryd.prog.info? e).isSome = true := by
  have h := tabTy
  unfold tabTyOk at h
  split at h
  · rename_i e he
    simp only [Bool.and_eq_true, beq_iff_eq] at h
    exact ⟨e, he, h⟩
  · cases h
theorem ix_lt (k : Nat) : (2 ^ k * 125613361 % 2 ^ 32) >>> 27 < 32 := by rw [Nat.shiftRight_eq_div_pow]; omega
theorem run_tab (j : Nat) (hj : j < 32) (w : World) (k : IntKind) : (do pure (Next.value (← Instr.indexAt tg_math_bits_deBruijn32tab (.pointer (some ⟨g_math_bits_deBruijn32tab, 0, none⟩)) (.int k (j : Int)))) : Sem Next).run Tryd.prog w = .ok (.value (.pointer (some ⟨g_math_bits_deBruijn32tab, j, none⟩))) w := by
  obtain ⟨e, hu, hs, hi⟩ := under_tab
  obtain ⟨q, hq⟩ := Option.isSome_iff_exists.1 hi
  refine run_value ?_
  have h2 : (0 : Int) ≤ (j : Int) ∧ (j : Int) < ((32 : Nat) : Int) := by omega
  simp only [Instr.indexAt, asIntOf, Sem.run_bind, Sem.run_pure, run_underlying hu, Result.andThen_ok, Instr.sureAddr, if_pos h2, sizeOf_T w hq, addr_add, hs, Int.toNat_natCast, Nat.mul_one, Nat.zero_add]
end Go.Proofs.YtkhcfbdjmpodbaaDoor
/- The features of a set; the distance. -/
namespace Go.Proofs.YtkhcfbdjmpodbaaDoor
open Go Go.Sy Go.RowKit
theorem c_tz' (n k j : Nat) (h0 : 0 < n) (hk : k < 32) (hix : ar .shr .u32 (ar .mul .u32 (ar .and .u32 (n : Int) (ar .sub .u32 0 (n : Int))) 125613361) 27 = (j : Int)) (htl : tab.getD j 0 = (k : Int)) (hlt : j < 32) :
    RetP Tryd.prog n_math_bits_TrailingZeros32 [.int .u32 (n : Int)] TabOk (.int .i64 k) := by
  refine Fn.of S_math_bits_TrailingZeros32 mx [.i n] rfl rfl fun c hp => .no (by ((try simp only [evE, liE, lO, lU, snd]); (try simp only [cmE])); omega) ?_
  refine .extp [.p (some ⟨g_math_bits_deBruijn32tab, j, none⟩)] (uOk_of rfl) (fun g w hw => ?_) (.load1 (.int .u8 (k : Int)) (some ⟨g_math_bits_deBruijn32tab, j, none⟩) [.int .u8 (k : Int)] 0 rfl rfl (fun g i x hx => ?_) rfl (.ret rfl ?_))
  · refine Eq.trans (b := .ok (.value (.pointer (some ⟨g_math_bits_deBruijn32tab, j, none⟩))) w) ?_ rfl
    simp only [XOp.sem, SV.dens, SV.den, IT.eval, List.getD_cons_zero, List.getD_cons_succ, Env.int, List.getElem?_cons_zero]
    rw [hix]
    exact run_tab j hlt w .u32
  · cases i with
    | zero => cases hx; exact ⟨_, _, rfl, by rw [← htl]; exact (hp.mono g.R) j hlt⟩
    | succ i => cases hx
  · show Value.int .i64 (IntKind.i64.wrap (k : Int)) = _
    rw [wrap_i64 (by omega) (by omega)]
theorem c_tz (k m : Nat) (h : 2 ^ k * (2 * m + 1) < 2 ^ 32) (hk : k < 32) : RetP Tryd.prog n_math_bits_TrailingZeros32 [.int .u32 ((2 ^ k * (2 * m + 1) : Nat) : Int)] TabOk (.int .i64 k) :=
  c_tz' _ k _ (Nat.mul_pos (Nat.two_pow_pos k) (by omega)) hk (tz_ix k m h) (tab_low k hk) (ix_lt k)
theorem c_features (s : Nat) : FnM Tryd.prog n_feats_features [.int .u32 (s : Int)] (fun _ => True) fun v mq _ => ∃ b e, v = .func (.func n_feats_features_1) #[] #[.pointer (some ⟨b, 0, none⟩)] ∧ mq = Mem.emp.upd b (.cells #[.int .u32 (s : Int)] e (0, 0)) :=
  FnM.of S_feats_features mx [.i s] rfl rfl fun c _ => .alloc fun b => .retL rfl fun _ => ⟨b, _, rfl, rfl⟩
theorem ar_dec (n : Nat) (h0 : 0 < n) (h : n < 2 ^ 32) : ar .sub .u32 (n : Int) 1 = ((n - 1 : Nat) : Int) := by
  show IntKind.u32.wrap ((n : Int) - 1) = _
  rw [show (n : Int) - 1 = ((n - 1 : Nat) : Int) by omega, wrap_u32 _ (by omega)]
theorem it_features (s b : Nat) (e : TypeId) (hs : s < 2 ^ 32) : Iter Tryd.prog n_feats_features_1 #[.pointer (some ⟨b, 0, none⟩)] (fun w => TabOk (Mv.of w)) (HW.mem (Mem.emp.upd b (.cells #[.int .u32 (s : Int)] e (0, 0)))) ((bitsL s).map fun f : Nat => [Value.int .i64 (f : Int)]) := by
  intro yv J E h w hyv hy hpre hJ hh hf hd
  obtain ⟨fn, ann, fuel, hfn, ht⟩ := S_feats_features_1
  let mem : Nat → Mem := fun q => Mem.emp.upd b (.cells #[.int .u32 (q : Int)] e (0, 0))
  have key := fn_sound hfn mx ht (us := [.v yv, .p (some ⟨b, 0, none⟩)]) (usOk_of (by simp [Sh.eats, Sh.eat, eatV, eatP, hyv])) (args := [yv, .pointer (some ⟨b, 0, none⟩)]) rfl (h := h.sep (HW.mem (mem s))) (w := w) ⟨hh, hf⟩
    (R := fun _ h' => ∃ hT : HW, (∀ w, h'.H w → hT.H w) ∧ (∀ b, hT.own b → h'.own b) ∧ (J (bitsL s).length hT ∨ E hT)) ?_
  · refine key.mono ?_
    rintro e w' ⟨v, rfl, h', hH', hg, hT, h1, h2, h3⟩
    exact ⟨⟨v, rfl⟩, hT, h1 w' hH', ⟨hg.size, fun k hk hn => ⟨fun ho => (hg.same k hk hn).1 (h2 k ho), (hg.same k hk hn).2⟩, hg.tape, hg.os, hg.output⟩, by rw [List.length_map]; exact h3⟩
  have goodc : ∀ (hT : HW) (q : Nat), Disj hT (HW.mem (mem q)) → Good (Cx.around hT) [] (mem q) := fun hT q hdj => ⟨fun k hk ho => hdj k ho hk, by simp, List.nodup_nil⟩
  have stop : ∀ (hT : HW) (q : Nat) (ρ : Env) (A : List (List U → HW → Prop)), (J (bitsL s).length hT ∨ E hT) → den Tryd.prog (fun _ h' => ∃ hT : HW, (∀ w, h'.H w → hT.H w) ∧ (∀ b, hT.own b → h'.own b) ∧ (J (bitsL s).length hT ∨ E hT)) (fun _ _ _ => False) (.ret (.tup []) []) [] ρ (hT.sep (HW.mem (mem q))) A := fun hT q ρ A hor =>
    ⟨hT.sep (HW.mem (mem q)), fun w hw => hw.hold, fun b hb => .inl hb, hT, fun w hw => hw.1, fun b hb => .inl hb, hor⟩
  refine ⟨fun n us h1 => us = [] ∧ ∃ (hT : HW) (q k : Nat), h1 = hT.sep (HW.mem (mem q)) ∧ Disj hT (HW.mem (mem q)) ∧ J k hT ∧ q < 2 ^ 32 ∧ bitsL q = (bitsL s).drop k ∧ k ≤ (bitsL s).length ∧ q = n, s, ⟨rfl, h, s, 0, rfl, hd, hJ, hs, by simp, by omega, rfl⟩, ?_⟩
  rintro n us _ _ ⟨rfl, hT, q, k, rfl, hdj, hJk, hq, hb, hkl, rfl⟩ _
  have ld : ∀ {R : Value → HW → Prop} {Dn : Nat → List U → HW → Prop} {A : List (List U → HW → Prop)} {t : Tree} {ρ : Env} {hT : HW} {q : Nat}, ρ.ptr 1 = some ⟨b, 0, none⟩ → DenM Tryd.prog R Dn t [] (ρ ++ [.i (q : Int)]) (Cx.around hT) (mem q) A → DenM Tryd.prog R Dn (.load 1 (.lit 0) [(.int .u32)] [] t) [] ρ (Cx.around hT) (mem q) A := fun {R Dn A t ρ hT q} hp hk =>
    DenM.load [.i (q : Int)] b 0 (usOk_of rfl) (by simp [atAddr, hp, IT.eval, addr_zero]) (fun g j v hv => by
      simp only [Sh.freshs, Sh.fresh, SV.dens, SV.den, IT.eval, int_at] at hv
      cases j with
      | zero => cases hv; exact g.on b 0 _ (by simp [Mv.on, mem, Mem.upd])
      | succ j => simp at hv) hk
  refine (ld (q := q) rfl (.ite (fun h1 => ?_) (fun h1 => ?_))) (goodc hT q hdj)
  · have hq0 : 0 < q := by
      replace h1 : ((q : Int) != 0) = true := h1
      have : q ≠ 0 := by simpa using h1
      omega
    obtain ⟨i, m, rfl⟩ := low_ex q hq0
    have hi : i < 32 := by
      rcases Nat.lt_or_ge i 32 with h' | h'
      · exact h'
      · have := Nat.pow_le_pow_right (n := 2) (by omega) h'
        have h3 : 2 ^ i ≤ 2 ^ i * (2 * m + 1) := Nat.le_mul_of_pos_right _ (by omega)
        omega
    rw [bitsL_low hi] at hb
    have hk : k < (bitsL s).length := by
      rcases Nat.lt_or_ge k (bitsL s).length with h' | h'
      · exact h'
      · rw [List.drop_of_length_le h'] at hb; cases hb
    rw [List.drop_eq_getElem_cons hk] at hb
    obtain ⟨hbi, hbt⟩ := List.cons.inj hb
    refine ld (q := 2 ^ i * (2 * m + 1)) rfl (.callW [.i (i : Int)] (c_tz i m hq hi) rfl rfl rfl rfl (fun w hw => hpre k hT w hJk hw.hold.1) fun g => ?_)
    refine den_yield (J := J) (E := E) (q := k) (x := [.int .i64 (i : Int)]) hy rfl rfl (by rw [List.getElem?_map, List.getElem?_eq_getElem hk, ← hbi]; rfl) hJk hdj rfl (fun hT' hJ' hdj' => ?_) (fun hT' hE' hdj' => ⟨fun h => (by cases h), fun _ => stop hT' _ _ _ (.inr hE')⟩)
    have h2i : 2 ^ i * (2 * m + 1) &&& (2 ^ i * (2 * m + 1) - 1) = 2 ^ i * (2 * m) := clear_low i m
    have hlt : 2 ^ i * (2 * m) < 2 ^ i * (2 * m + 1) := Nat.mul_lt_mul_of_pos_left (by omega) (Nat.two_pow_pos i)
    refine ⟨fun _ => ?_, fun h => (by cases h)⟩
    refine (ld (q := 2 ^ i * (2 * m + 1)) rfl (ld (q := 2 ^ i * (2 * m + 1)) rfl (DenM.store b 0 #[.int .u32 ((2 ^ i * (2 * m + 1) : Nat) : Int)] e rfl rfl (Mem.upd_same ..) (by simp) fun g => ?_))) (goodc hT' _ hdj')
    have hst : (mem (2 ^ i * (2 * m + 1))).upd b (.cells (putAt (#[Value.int .u32 ((2 ^ i * (2 * m + 1) : Nat) : Int)] : Array Value).toList 0 [Value.int .u32 (ar .and .u32 ((2 ^ i * (2 * m + 1) : Nat) : Int) (ar .sub .u32 ((2 ^ i * (2 * m + 1) : Nat) : Int) 1))]).toArray e (0, 0)) = mem (2 ^ i * (2 * m)) := by
      rw [ar_dec _ hq0 hq, ar_and _ _ hq (by omega), h2i]
      funext x
      simp only [mem, Mem.upd]
      split <;> rfl
    refine ⟨_, fun w hw => hw.hold, fun b hb => .inl hb, _, rfl, 2 ^ i * (2 * m), hlt, rfl, hT', 2 ^ i * (2 * m), k + 1, ?_, ?_, hJ', by omega, hbt, by omega, rfl⟩
    · show hT'.sep (HW.mem _) = _
      exact congrArg (fun x => hT'.sep (HW.mem x)) hst
    · intro x hx hm
      refine hdj' x hx ?_
      by_cases e' : x = b
      · subst e'; show mem _ x ≠ none; simp [mem, Mem.upd]
      · exfalso; apply hm; show mem _ x = none; simp [mem, Mem.upd, e', Mem.emp]
  · have hq0 : q = 0 := by
      replace h1 : ((q : Int) != 0) = false := h1
      simpa using h1
    subst hq0
    rw [bitsL_zero] at hb
    have hk : (bitsL s).length ≤ k := List.drop_eq_nil_iff.1 hb.symm
    have : k = (bitsL s).length := by omega
    subst this
    exact fun _ => stop hT 0 _ _ (.inl hJk)
end Go.Proofs.YtkhcfbdjmpodbaaDoor
/- The distance of feats; Order; the small functions of the laws; 'works'. -/
namespace Go.Proofs.YtkhcfbdjmpodbaaDoor
open Go Go.Sy Go.RowKit
theorem addW_snoc (ws : List Int) (l : List Nat) (f : Nat) : addW ws 0 (l ++ [f]) = addW ws 0 l + (ws[f]?).getD 0 := by rw [addW_append]; rfl
theorem c_dist (s t : Snd) (p : Option Addr) (cap : Nat) (ws : List Int) (gap : Int) (h : Sok s) (h' : Sok t) : RetP Tryd.prog n_feats_Dist [snd s, snd t, costs p ws.length cap gap] (fun R => CostsAt R p ws ∧ TabOk R) (.tuple #[.int .i64 (distC s t ws gap).1, .int .i64 (distC s t ws gap).2]) := by
  refine Fn.of S_feats_Dist mx [.i s.1, .i s.2, .i t.1, .i t.2, .p p, .i ws.length, .i cap, .i gap] rfl rfl fun c hp => .alloc fun _ => .alloc fun _ => .alloc fun _ => .callV (c_valid s h) (fun _ => trivial) ?_
  refine .ite (fun h1 => .ret rfl ?_) (fun h1 => .callV (c_valid t h') (fun _ => trivial) (.ite (fun h2 => .ret rfl ?_) (fun h2 => .callV (c_checkCosts p cap ws gap) (fun g => hp.1.mono g.R) (.ite (fun h3 => .ret rfl ?_) (fun h3 => .alloc fun _ => .callV (c_diff s t h h') (fun _ => trivial) ?_))))) <;> ((try simp only [evE, liE, lO, lU, snd] at h1); (try simp only [cmE] at h1))
  · ((try simp only [evE, liE, lO, lU, snd]); (try simp only [cmE])); simp [distC, h1]
  · ((try simp only [evE, liE, lO, lU, snd] at h2); (try simp only [cmE] at h2)); ((try simp only [evE, liE, lO, lU, snd]); (try simp only [cmE])); simp [distC, h2]
  · ((try simp only [evE, liE, lO, lU, snd] at h2 h3); (try simp only [cmE] at h2 h3))
    ((try simp only [evE, liE, lO, lU, snd]); (try simp only [cmE])); simp [distC, h1, h2, h3]
  ((try simp only [evE, liE, lO, lU, snd] at h2 h3); (try simp only [cmE] at h2 h3))
  obtain ⟨c1, c2, c3, c4⟩ := checkC_zero h3
  have hD := diffS_lt s t
  refine .callM (c_features (diffS s t)) rfl rfl (fun _ => trivial) ?_
  rintro v mq hfr ⟨b, e, rfl, rfl⟩
  refine ⟨[.v _], ⟨_, rfl, rfl⟩, rfl, ?_⟩
  have hbl : ∀ k, ((bitsL (diffS s t)).take k).length ≤ 32 := fun k => by
    have := bitsL_len (diffS s t)
    simp; omega
  refine .range n_feats_features_1 #[.pointer (some ⟨b, 0, none⟩)] ((bitsL (diffS s t)).map fun f : Nat => [U.i (f : Int)]) (fun w => TabOk (Mv.of w)) (Mem.emp.upd b (.cells #[.int .u32 (diffS s t : Int)] e (0, 0))) Mem.emp
    (fun k us m' => us = [.i (addW ws 0 ((bitsL (diffS s t)).take k))] ∧ m' = Mem.emp) (fun _ _ _ => False) rfl (by kernel_rfl) rfl (fun b hb => absurd rfl hb) (fun ux hx => ?_) ?_ ⟨rfl, rfl⟩ (fun k us m' w _ hw => (hp.2.mono ⟨fun b o v hv => c.ok w b o v hw.hold.1 hv, fun b es hv => c.okm w b es hw.hold.1 hv⟩)) ?_ ?_ (fun _ _ _ _ _ hE => hE.elim)
  · obtain ⟨f, _, rfl⟩ := List.mem_map.1 hx; rfl
  · have := it_features (diffS s t) b e (by omega)
    rw [List.map_map]
    exact this
  · rintro k us ux m' _ hx ⟨rfl, rfl⟩
    rw [List.getElem?_map, Option.map_eq_some_iff] at hx
    obtain ⟨f, hf, rfl⟩ := hx
    have hk : k < (bitsL (diffS s t)).length := (List.getElem?_eq_some_iff.1 hf).1
    have hsn := addW_snoc ws ((bitsL (diffS s t)).take k) f
    have htk : (bitsL (diffS s t)).take (k + 1) = (bitsL (diffS s t)).take k ++ [f] := by
      rw [List.take_succ_eq_append_getElem hk, (List.getElem?_eq_some_iff.1 hf).2]
    rw [← htk] at hsn
    have b1 := addW_bound ws c4 ((bitsL (diffS s t)).take k)
    have b2 := hbl k
    refine .chk (by ((try simp only [evE, liE, lO, lU, snd]); (try simp only [cmE])); omega) (.ite (fun h5 => ?_) (fun h5 => .leave (.inl ⟨rfl, ?_, rfl⟩))) <;> ((try simp only [evE, liE, lO, lU, snd] at h5); (try simp only [cmE] at h5))
    · have hj : f < ws.length := by omega
      have bj := c4 ws[f] (List.getElem_mem hj)
      obtain ⟨b', o, hpe⟩ := hp.1.some (i := f) (by simpa using hj)
      refine .chk (by ((try simp only [evE, liE, lO, lU, snd]); (try simp only [cmE])); simp [hpe]; omega) (.load1 (.int .i64 ws[f]) p (ws.map (.int .i64)) f rfl (by ((try simp only [evE, liE, lO, lU, snd]); (try simp only [cmE])); simp) (fun g => hp.1.mono g.R) (by simp [hj]) (.leave (.inl ⟨rfl, ?_, rfl⟩)))
      show [U.i (ar .add .i64 (addW ws 0 ((bitsL (diffS s t)).take k)) ws[f])] = _
      rw [addI (by omega) (by omega), hsn, List.getElem?_eq_getElem hj]; rfl
    · show [U.i (addW ws 0 ((bitsL (diffS s t)).take k))] = _
      rw [hsn, List.getElem?_eq_none (by omega)]; simp
  · rintro us m' _ ⟨rfl, rfl⟩
    refine .ret rfl ?_
    rw [List.length_map, List.take_length, addW_bitsL _ _ (by omega)]
    ((try simp only [evE, liE, lO, lU, snd]); (try simp only [cmE])); simp [distC, h1, h2, h3]
/-! Order. -/
end Go.Proofs.YtkhcfbdjmpodbaaDoor
/- The contracts of the functions that check words, in package word, in its reference, and in the layers that take words. -/
namespace Go.Sy
open Go
theorem or_shift {s : Snd} (h : Sok s) : cm .eql (ar .shr .u32 ((s.1 ||| s.2 : Nat) : Int) 24) 0 = decide (s.1 ||| s.2 ≤ 16777215) := by
  have hl : s.1 ||| s.2 < 2 ^ 32 := Nat.or_lt_two_pow h.1 h.2
  have := ar_shr (s.1 ||| s.2) 24 (by omega)
  rw [show ((24 : Nat) : Int) = 24 from rfl] at this
  rw [this]
  show ((((s.1 ||| s.2) >>> 24 : Nat) : Int) == 0) = _
  rw [Bool.eq_iff_iff]
  simp only [beq_iff_eq, decide_eq_true_eq, Nat.shiftRight_eq_div_pow]
  omega
def Wok (w : List Snd) : Prop := ∀ s ∈ w, Sok s
theorem Wok.at {w : List Snd} (h : Wok w) {j : Nat} (hj : j < w.length) : Sok w[j] := h _ (List.getElem_mem hj)
theorem checkW_cases {w : List Snd} (h : w.length ≤ 32) : checkW w = if w.all valid = true then 0 else 14 := by unfold checkW; rw [if_neg (by omega)]
theorem all_drop {w : List Snd} {j : Nat} (hj : j < w.length) (h : ∀ s ∈ w.take j, valid s = true) (hv : valid w[j] = true) : ∀ s ∈ w.take (j + 1), valid s = true := by
  intro s hs
  rw [List.take_succ_eq_append_getElem hj] at hs
  rcases List.mem_append.1 hs with hs | hs
  · exact h s hs
  · simp at hs; rw [hs]; exact hv
end Go.Sy
namespace Go.Proofs.YtkhcfbdjmpodbaaDoor
open Go Go.Sy Go.RowKit
theorem c_wordValid (s : Snd) (h : Sok s) : Ret Tryd.prog n_word_valid [snd s] (.bool (valid s)) := by
  have e1 := ar_and s.1 s.2 h.1 h.2
  have e2 := ar_or s.1 s.2 h.1 h.2
  refine Fn.of S_word_valid mx [.i s.1, .i s.2] rfl rfl fun c _ => .alloc fun _ => .ite (fun h1 => .ret rfl ?_) (fun h1 => .ret rfl ?_)
  · replace h1 : cm .eql (ar .and .u32 (s.1 : Int) (s.2 : Int)) 0 = true := h1
    rw [e1] at h1
    ((try simp only [evE, liE, lO, lU, snd] at h1); (try simp only [cmE] at h1))
    show Value.bool (cm .eql (ar .shr .u32 (ar .or .u32 (s.1 : Int) (s.2 : Int)) 24) 0) = _
    rw [e2, or_shift h]
    have h1' : s.1 &&& s.2 = 0 := by omega
    simp [valid, h1']
  · replace h1 : cm .eql (ar .and .u32 (s.1 : Int) (s.2 : Int)) 0 = false := h1
    rw [e1] at h1
    ((try simp only [evE, liE, lO, lU, snd] at h1); (try simp only [cmE] at h1))
    have h1' : ¬ s.1 &&& s.2 = 0 := by omega
    ((try simp only [evE, liE, lO, lU, snd]); (try simp only [cmE])); simp [valid, h1']
theorem c_wordCheck (p : Option Addr) (cap : Nat) (w : List Snd) (h : Wok w) : RetP Tryd.prog n_word_Check [slv p w.length cap] (fun R => WordAt R p w) (.int .i64 (checkW w)) := by
  refine Fn.of S_word_Check mx [.p p, .i w.length, .i cap] rfl rfl fun c hp => .chk (by ((try simp only [evE, liE, lO, lU, snd]); (try simp only [cmE])); omega) (.ite (fun h1 => .ret rfl ?_) (fun h1 => .chk (by ((try simp only [evE, liE, lO, lU, snd]); (try simp only [cmE])); omega) ?_)) <;> ((try simp only [evE, liE, lO, lU, snd] at h1); (try simp only [cmE] at h1))
  · ((try simp only [evE, liE, lO, lU, snd]); (try simp only [cmE])); unfold checkW; rw [if_pos (by omega)]
  · have hc := checkW_cases (w := w) (by omega)
    refine .loop (fun n us _ => ∃ (e : Int) (j : Nat), us = [.i e, .i j] ∧ n + j = w.length ∧ ∀ s ∈ w.take j, valid s = true) w.length ⟨0, 0, rfl, rfl, by simp⟩ ?_
    rintro n _ m _ ⟨e, j, rfl, hn, hok⟩
    refine .ite (fun h2 => ?_) (fun h2 => .ret rfl ?_) <;> ((try simp only [evE, liE, lO, lU, snd] at h2); (try simp only [cmE] at h2))
    · have hj : j < w.length := by omega
      refine .loadW w j hj (fun g => hp.mono g.R) (.alloc fun _ => .callV (c_wordValid w[j] (h.at hj)) (fun _ => trivial) (.ite (fun h3 => .ret rfl ?_) (fun h3 => .again rfl ⟨n - 1, by omega, e, j + 1, ?_, by omega, all_drop hj hok ?_⟩))) <;> ((try simp only [evE, liE, lO, lU, snd] at h3); (try simp only [cmE] at h3))
      · have : ¬ w.all valid = true := fun ha => by rw [List.all_eq_true.1 ha _ (List.getElem_mem hj)] at h3; cases h3
        ((try simp only [evE, liE, lO, lU, snd]); (try simp only [cmE])); rw [hc, if_neg this]
      · (simp only [evE, liE, lO, lU, snd, Sh.uss, Sh.us, atAddr, map_add0, List.append_nil]); rw [add_i64 j (by omega)]
      · exact h3
    · rw [List.take_of_length_le (by omega)] at hok
      ((try simp only [evE, liE, lO, lU, snd]); (try simp only [cmE])); rw [hc, if_pos (List.all_eq_true.2 hok)]
def _root_.Go.Sy.WordsAt (R : Mv) (q : Option Addr) (l : List WD) : Prop := Cells R q (l.map WD.v) ∧ ∀ x ∈ l, WordAt R x.p x.w
theorem _root_.Go.Sy.WordsAt.mono {R S : Mv} {q : Option Addr} {l : List WD} (h : WordsAt R q l) (hle : R.le S) : WordsAt S q l := ⟨h.1.mono hle, fun x hx => (h.2 x hx).mono hle⟩
theorem checkL_take {l : List WD} {j : Nat} (hj : j ≤ l.length) (h : ∀ x ∈ l.take j, checkW x.w = 0) : checkL (l.map (·.w)) = checkL ((l.drop j).map (·.w)) := by
  induction l generalizing j with
  | nil => simp
  | cons x l ih =>
    cases j with
    | zero => rfl
    | succ j =>
      have h0 := h x (by simp)
      simp only [List.map_cons, checkL, List.drop_succ_cons]
      rw [if_neg (by simp [h0])]
      exact ih (by simpa using hj) fun y hy => h y (by simp [hy])
end Go.Proofs.YtkhcfbdjmpodbaaDoor
