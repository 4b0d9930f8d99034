/- The features of a set; the distance. -/
import Derived.Test.YtedfogpnmpmggaaDoorFd
set_option linter.unusedSimpArgs false
set_option linter.unusedVariables false
namespace Go.Proofs.YtedfogpnmpmggaaDoor
open Go Go.Sy Go.RowKit
theorem c_tz' (n k j : Nat) (h0 : 0 < n) (hk : k < 32) (hix : ar .shr .u32 (ar .mul .u32 (ar .and .u32 (n : Int) (ar .sub .u32 0 (n : Int))) 125613361) 27 = (j : Int)) (htl : tab.getD j 0 = (k : Int)) (hlt : j < 32) :
    RetP Tryd.prog n_math_bits_TrailingZeros32 [.int .u32 (n : Int)] TabOk (.int .i64 k) := by
  refine Fn.of S_math_bits_TrailingZeros32 mx [.i n] rfl rfl fun c hp => .no (by ((try simp only [BT.eval, IT.eval, SV.den, SV.dens, Env.int, Env.bool, Env.val, Env.ptr, letsOf, letU, snd, List.flatMap_cons, List.flatMap_nil, List.cons_append, List.nil_append, List.append_assoc, List.getElem?_cons_zero, List.getElem?_cons_succ]); (try simp only [cm, cond_true, cond_false, pick_or, pick_and, Bool.or_eq_true, Bool.and_eq_true, Bool.or_eq_false_iff, Bool.and_eq_false_iff, Bool.not_eq_true', Bool.not_eq_false', decide_eq_true_eq, decide_eq_false_iff_not, beq_iff_eq, beq_eq_false_iff_ne, bne_iff_ne, bne_eq_false_iff_eq, ge_iff_le, gt_iff_lt, Int.not_lt, Int.not_le])); omega) ?_
  refine .extp [.p (some ⟨g_math_bits_deBruijn32tab, j, none⟩)] (uOk_of rfl) (fun g w hw => ?_) (.load1 (.int .u8 (k : Int)) (some ⟨g_math_bits_deBruijn32tab, j, none⟩) [.int .u8 (k : Int)] 0 rfl rfl (fun g i x hx => ?_) rfl (.ret rfl ?_))
  · refine Eq.trans (b := .ok (.value (.pointer (some ⟨g_math_bits_deBruijn32tab, j, none⟩))) w) ?_ rfl
    simp only [XOp.sem, SV.dens, SV.den, IT.eval, List.getD_cons_zero, List.getD_cons_succ, Env.int, List.getElem?_cons_zero]
    rw [hix]
    exact run_tab j hlt w .u32
  · cases i with
    | zero => cases hx; exact ⟨_, _, rfl, by rw [← htl]; exact (hp.mono g.R) j hlt⟩
    | succ i => cases hx
  · show Value.int .i64 (IntKind.i64.wrap (k : Int)) = _
    rw [wrap_i64 (by omega) (by omega)]
theorem c_tz (k m : Nat) (h : 2 ^ k * (2 * m + 1) < 2 ^ 32) (hk : k < 32) : RetP Tryd.prog n_math_bits_TrailingZeros32 [.int .u32 ((2 ^ k * (2 * m + 1) : Nat) : Int)] TabOk (.int .i64 k) :=
  c_tz' _ k _ (Nat.mul_pos (Nat.two_pow_pos k) (by omega)) hk (tz_ix k m h) (tab_low k hk) (ix_lt k)
theorem c_features (s : Nat) : FnM Tryd.prog n_feats_features [.int .u32 (s : Int)] (fun _ => True) fun v mq _ => ∃ b e, v = .func (.func n_feats_features_1) #[] #[.pointer (some ⟨b, 0, none⟩)] ∧ mq = Mem.emp.upd b (.cells #[.int .u32 (s : Int)] e (0, 0)) :=
  FnM.of S_feats_features mx [.i s] rfl rfl fun c _ => .alloc fun b => .retL rfl fun _ => ⟨b, _, rfl, rfl⟩
theorem ar_dec (n : Nat) (h0 : 0 < n) (h : n < 2 ^ 32) : ar .sub .u32 (n : Int) 1 = ((n - 1 : Nat) : Int) := by
  show IntKind.u32.wrap ((n : Int) - 1) = _
  rw [show (n : Int) - 1 = ((n - 1 : Nat) : Int) by omega, wrap_u32 _ (by omega)]
theorem it_features (s b : Nat) (e : TypeId) (hs : s < 2 ^ 32) : Iter Tryd.prog n_feats_features_1 #[.pointer (some ⟨b, 0, none⟩)] (fun w => TabOk (Mv.of w)) (HW.mem (Mem.emp.upd b (.cells #[.int .u32 (s : Int)] e (0, 0)))) ((bitsL s).map fun f : Nat => [Value.int .i64 (f : Int)]) := by
  intro yv J E h w hyv hy hpre hJ hh hf hd
  obtain ⟨fn, ann, fuel, hfn, ht⟩ := S_feats_features_1
  let mem : Nat → Mem := fun q => Mem.emp.upd b (.cells #[.int .u32 (q : Int)] e (0, 0))
  have key := fn_sound hfn mx ht (us := [.v yv, .p (some ⟨b, 0, none⟩)]) (usOk_of (by simp [Sh.eats, Sh.eat, eatV, eatP, hyv])) (args := [yv, .pointer (some ⟨b, 0, none⟩)]) rfl (h := h.sep (HW.mem (mem s))) (w := w) ⟨hh, hf⟩
    (R := fun _ h' => ∃ hT : HW, (∀ w, h'.H w → hT.H w) ∧ (∀ b, hT.own b → h'.own b) ∧ (J (bitsL s).length hT ∨ E hT)) ?_
  · refine key.mono ?_
    rintro e w' ⟨v, rfl, h', hH', hg, hT, h1, h2, h3⟩
    exact ⟨⟨v, rfl⟩, hT, h1 w' hH', ⟨hg.size, fun k hk hn => ⟨fun ho => (hg.same k hk hn).1 (h2 k ho), (hg.same k hk hn).2⟩, hg.tape, hg.os, hg.output⟩, by rw [List.length_map]; exact h3⟩
  have goodc : ∀ (hT : HW) (q : Nat), Disj hT (HW.mem (mem q)) → Good (Cx.around hT) [] (mem q) := fun hT q hdj => ⟨fun k hk ho => hdj k ho hk, by simp, List.nodup_nil⟩
  have stop : ∀ (hT : HW) (q : Nat) (ρ : Env) (A : List (List U → HW → Prop)), (J (bitsL s).length hT ∨ E hT) → den Tryd.prog (fun _ h' => ∃ hT : HW, (∀ w, h'.H w → hT.H w) ∧ (∀ b, hT.own b → h'.own b) ∧ (J (bitsL s).length hT ∨ E hT)) (fun _ _ _ => False) (.ret (.tup []) []) [] ρ (hT.sep (HW.mem (mem q))) A := fun hT q ρ A hor =>
    ⟨hT.sep (HW.mem (mem q)), fun w hw => hw.hold, fun b hb => .inl hb, hT, fun w hw => hw.1, fun b hb => .inl hb, hor⟩
  refine ⟨fun n us h1 => us = [] ∧ ∃ (hT : HW) (q k : Nat), h1 = hT.sep (HW.mem (mem q)) ∧ Disj hT (HW.mem (mem q)) ∧ J k hT ∧ q < 2 ^ 32 ∧ bitsL q = (bitsL s).drop k ∧ k ≤ (bitsL s).length ∧ q = n, s, ⟨rfl, h, s, 0, rfl, hd, hJ, hs, by simp, by omega, rfl⟩, ?_⟩
  rintro n us _ _ ⟨rfl, hT, q, k, rfl, hdj, hJk, hq, hb, hkl, rfl⟩ _
  have ld : ∀ {R : Value → HW → Prop} {Dn : Nat → List U → HW → Prop} {A : List (List U → HW → Prop)} {t : Tree} {ρ : Env} {hT : HW} {q : Nat}, ρ.ptr 1 = some ⟨b, 0, none⟩ → DenM Tryd.prog R Dn t [] (ρ ++ [.i (q : Int)]) (Cx.around hT) (mem q) A → DenM Tryd.prog R Dn (.load 1 (.lit 0) [(.int .u32)] [] t) [] ρ (Cx.around hT) (mem q) A := fun {R Dn A t ρ hT q} hp hk =>
    DenM.load [.i (q : Int)] b 0 (usOk_of rfl) (by simp [atAddr, hp, IT.eval, addr_zero]) (fun g j v hv => by
      simp only [Sh.freshs, Sh.fresh, SV.dens, SV.den, IT.eval, int_at] at hv
      cases j with
      | zero => cases hv; exact g.on b 0 _ (by simp [Mv.on, mem, Mem.upd])
      | succ j => simp at hv) hk
  refine (ld (q := q) rfl (.ite (fun h1 => ?_) (fun h1 => ?_))) (goodc hT q hdj)
  · have hq0 : 0 < q := by
      replace h1 : ((q : Int) != 0) = true := h1
      have : q ≠ 0 := by simpa using h1
      omega
    obtain ⟨i, m, rfl⟩ := low_ex q hq0
    have hi : i < 32 := by
      rcases Nat.lt_or_ge i 32 with h' | h'
      · exact h'
      · have := Nat.pow_le_pow_right (n := 2) (by omega) h'
        have h3 : 2 ^ i ≤ 2 ^ i * (2 * m + 1) := Nat.le_mul_of_pos_right _ (by omega)
        omega
    rw [bitsL_low hi] at hb
    have hk : k < (bitsL s).length := by
      rcases Nat.lt_or_ge k (bitsL s).length with h' | h'
      · exact h'
      · rw [List.drop_of_length_le h'] at hb; cases hb
    rw [List.drop_eq_getElem_cons hk] at hb
    obtain ⟨hbi, hbt⟩ := List.cons.inj hb
    refine ld (q := 2 ^ i * (2 * m + 1)) rfl (.callW [.i (i : Int)] (c_tz i m hq hi) rfl rfl rfl rfl (fun w hw => hpre k hT w hJk hw.hold.1) fun g => ?_)
    refine den_yield (J := J) (E := E) (q := k) (x := [.int .i64 (i : Int)]) hy rfl rfl (by rw [List.getElem?_map, List.getElem?_eq_getElem hk, ← hbi]; rfl) hJk hdj rfl (fun hT' hJ' hdj' => ?_) (fun hT' hE' hdj' => ⟨fun h => (by cases h), fun _ => stop hT' _ _ _ (.inr hE')⟩)
    have h2i : 2 ^ i * (2 * m + 1) &&& (2 ^ i * (2 * m + 1) - 1) = 2 ^ i * (2 * m) := clear_low i m
    have hlt : 2 ^ i * (2 * m) < 2 ^ i * (2 * m + 1) := Nat.mul_lt_mul_of_pos_left (by omega) (Nat.two_pow_pos i)
    refine ⟨fun _ => ?_, fun h => (by cases h)⟩
    refine (ld (q := 2 ^ i * (2 * m + 1)) rfl (ld (q := 2 ^ i * (2 * m + 1)) rfl (DenM.store b 0 #[.int .u32 ((2 ^ i * (2 * m + 1) : Nat) : Int)] e rfl rfl (Mem.upd_same ..) (by simp) fun g => ?_))) (goodc hT' _ hdj')
    have hst : (mem (2 ^ i * (2 * m + 1))).upd b (.cells (putAt (#[Value.int .u32 ((2 ^ i * (2 * m + 1) : Nat) : Int)] : Array Value).toList 0 [Value.int .u32 (ar .and .u32 ((2 ^ i * (2 * m + 1) : Nat) : Int) (ar .sub .u32 ((2 ^ i * (2 * m + 1) : Nat) : Int) 1))]).toArray e (0, 0)) = mem (2 ^ i * (2 * m)) := by
      rw [ar_dec _ hq0 hq, ar_and _ _ hq (by omega), h2i]
      funext x
      simp only [mem, Mem.upd]
      split <;> rfl
    refine ⟨_, fun w hw => hw.hold, fun b hb => .inl hb, _, rfl, 2 ^ i * (2 * m), hlt, rfl, hT', 2 ^ i * (2 * m), k + 1, ?_, ?_, hJ', by omega, hbt, by omega, rfl⟩
    · show hT'.sep (HW.mem _) = _
      exact congrArg (fun x => hT'.sep (HW.mem x)) hst
    · intro x hx hm
      refine hdj' x hx ?_
      by_cases e' : x = b
      · subst e'; show mem _ x ≠ none; simp [mem, Mem.upd]
      · exfalso; apply hm; show mem _ x = none; simp [mem, Mem.upd, e', Mem.emp]
  · have hq0 : q = 0 := by
      replace h1 : ((q : Int) != 0) = false := h1
      simpa using h1
    subst hq0
    rw [bitsL_zero] at hb
    have hk : (bitsL s).length ≤ k := List.drop_eq_nil_iff.1 hb.symm
    have : k = (bitsL s).length := by omega
    subst this
    exact fun _ => stop hT 0 _ _ (.inl hJk)
end Go.Proofs.YtedfogpnmpmggaaDoor
