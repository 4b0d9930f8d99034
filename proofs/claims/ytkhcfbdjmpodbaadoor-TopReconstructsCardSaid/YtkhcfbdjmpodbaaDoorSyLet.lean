/- Letters: fresh ones, scope, values that are the same by their looks. -/
import Derived.Test.YtkhcfbdjmpodbaaDoorSyStep
set_option linter.unusedSimpArgs false
set_option linter.unusedVariables false
namespace Go.Sy
open Go

mutual
def UOk : Sh → List U → Prop
  | .int _, us => ∃ n, us = [.i n]
  | .bool, us => ∃ b, us = [.b b]
  | .val, us => ∃ v, us = [.v v] ∧ v.oneCell' = true
  | .ptr, us => ∃ p, us = [.p p]
  | .sl, us => ∃ p l c, us = [.p p, .i l, .i c]
  | .agg l, us => UsOk l us
  | .tup l, us => UsOk l us
def UsOk : List Sh → List U → Prop
  | [], us => us = []
  | s :: l, us => ∃ u t, us = u ++ t ∧ UOk s u ∧ UsOk l t
end
mutual
theorem fresh_len : ∀ (s : Sh) (us : List U) (n : Nat), UOk s us → (s.fresh n).2 = n + us.length
  | .int _, us, n, h => by obtain ⟨_, rfl⟩ := h; simp [Sh.fresh]
  | .bool, us, n, h => by obtain ⟨_, rfl⟩ := h; simp [Sh.fresh]
  | .val, us, n, h => by obtain ⟨_, rfl, _⟩ := h; simp [Sh.fresh]
  | .ptr, us, n, h => by obtain ⟨_, rfl⟩ := h; simp [Sh.fresh]
  | .sl, us, n, h => by obtain ⟨_, _, _, rfl⟩ := h; simp [Sh.fresh]
  | .agg l, us, n, h => by simp only [Sh.fresh]; exact freshs_len l us n h
  | .tup l, us, n, h => by simp only [Sh.fresh]; exact freshs_len l us n h
theorem freshs_len : ∀ (l : List Sh) (us : List U) (n : Nat), UsOk l us → (Sh.freshs l n).2 = n + us.length
  | [], us, n, h => by cases (show us = [] from h); simp [Sh.freshs]
  | s :: l, us, n, h => by
    obtain ⟨u, t, rfl, hu, ht⟩ := h
    simp only [Sh.freshs, fresh_len s u n hu, freshs_len l t _ ht, List.length_append]; omega
end
mutual
theorem UOk.env : ∀ (s : Sh) (us : List U), UOk s us → ∀ v, U.v v ∈ us → v.oneCell' = true
  | .int _, us, h, v, hv => by obtain ⟨_, rfl⟩ := h; simp at hv
  | .bool, us, h, v, hv => by obtain ⟨_, rfl⟩ := h; simp at hv
  | .val, us, h, v, hv => by obtain ⟨_, rfl, h⟩ := h; simp at hv; rw [hv]; exact h
  | .ptr, us, h, v, hv => by obtain ⟨_, rfl⟩ := h; simp at hv
  | .sl, us, h, v, hv => by obtain ⟨_, _, _, rfl⟩ := h; simp at hv
  | .agg l, us, h, v, hv => UsOk.env l us h v hv
  | .tup l, us, h, v, hv => UsOk.env l us h v hv
theorem UsOk.env : ∀ (l : List Sh) (us : List U), UsOk l us → ∀ v, U.v v ∈ us → v.oneCell' = true
  | [], us, h, v, hv => by cases (show us = [] from h); simp at hv
  | s :: l, us, h, v, hv => by
    obtain ⟨u, t, rfl, hu, ht⟩ := h
    rcases List.mem_append.1 hv with hv | hv
    · exact UOk.env s u hu v hv
    · exact UsOk.env l t ht v hv
end
theorem EnvOk.append {ρ : Env} {us : List U} (h : EnvOk ρ) (hu : ∀ v, U.v v ∈ us → v.oneCell' = true) : EnvOk (ρ ++ us) := by
  intro i v hv
  rcases Nat.lt_or_ge i ρ.length with hi | hi
  · rw [List.getElem?_append_left hi] at hv; exact h i v hv
  · rw [List.getElem?_append_right hi] at hv; exact hu v (List.mem_of_getElem? hv)

/-! ### Scope -/
def EqUpTo (nv : Nat) (ρ ρ' : Env) : Prop := ∀ i, i < nv → ρ[i]? = ρ'[i]?
theorem IT.sc_eval {nv : Nat} {ρ ρ' : Env} (h : EqUpTo nv ρ ρ') : ∀ t : IT, t.sc nv = true → t.eval ρ = t.eval ρ' := by
  intro t
  induction t with
  | lit n => intro _; rfl
  | var i => intro hs; simp only [IT.sc, decide_eq_true_eq] at hs; simp only [IT.eval, Env.int, h i hs]
  | bin op k x y ix iy => intro hs; simp only [IT.sc, Bool.and_eq_true] at hs; simp only [IT.eval, ix hs.1, iy hs.2]
  | conv k x ix => intro hs; simp only [IT.sc] at hs; simp only [IT.eval, ix hs]
  | mn x y ix iy => intro hs; simp only [IT.sc, Bool.and_eq_true] at hs; simp only [IT.eval, ix hs.1, iy hs.2]
  | mx x y ix iy => intro hs; simp only [IT.sc, Bool.and_eq_true] at hs; simp only [IT.eval, ix hs.1, iy hs.2]
  | off x s y ix iy => intro hs; simp only [IT.sc, Bool.and_eq_true] at hs; simp only [IT.eval, ix hs.1, iy hs.2]
  | dif x y ix iy => intro hs; simp only [IT.sc, Bool.and_eq_true] at hs; simp only [IT.eval, ix hs.1, iy hs.2]
  | ifeq a b x y ia ib ix iy => intro hs; simp only [IT.sc, Bool.and_eq_true] at hs; simp only [IT.eval, ia hs.1.1.1, ib hs.1.1.2, ix hs.1.2, iy hs.2]
theorem BT.sc_eval {nv : Nat} {ρ ρ' : Env} (h : EqUpTo nv ρ ρ') : ∀ t : BT, t.sc nv = true → t.eval ρ = t.eval ρ' := by
  intro t
  induction t with
  | lit n => intro _; rfl
  | var i => intro hs; simp only [BT.sc, decide_eq_true_eq] at hs; simp only [BT.eval, Env.bool, h i hs]
  | cmp op x y => intro hs; simp only [BT.sc, Bool.and_eq_true] at hs; simp only [BT.eval, IT.sc_eval h _ hs.1, IT.sc_eval h _ hs.2]
  | not x ix => intro hs; simp only [BT.sc] at hs; simp only [BT.eval, ix hs]
  | pick c x y ic ix iy => intro hs; simp only [BT.sc, Bool.and_eq_true] at hs; simp only [BT.eval, ic hs.1.1, ix hs.1.2, iy hs.2]
  | beq x y ix iy => intro hs; simp only [BT.sc, Bool.and_eq_true] at hs; simp only [BT.eval, ix hs.1, iy hs.2]
  | some i => intro hs; simp only [BT.sc, decide_eq_true_eq] at hs; simp only [BT.eval, Env.ptr, h i hs]
def EqLoc (nb : Nat) (L L' : List Nat) : Prop := ∀ i, i < nb → L.getD i 0 = L'.getD i 0
mutual
theorem SV.sc_den {nb nv : Nat} {ρ ρ' : Env} {L L' : List Nat} (h : EqUpTo nv ρ ρ') (hl : EqLoc nb L L') : ∀ x : SV, x.sc nb nv = true → x.den L ρ = x.den L' ρ'
  | .undef, _ | .junk, _ | .cst _, _ => by simp [SV.den]
  | .int k t, hs => by simp only [SV.sc] at hs; simp only [SV.den, IT.sc_eval h t hs]
  | .bool t, hs => by simp only [SV.sc] at hs; simp only [SV.den, BT.sc_eval h t hs]
  | .val i, hs => by simp only [SV.sc, decide_eq_true_eq] at hs; simp only [SV.den, Env.val, h i hs]
  | .loc b o, hs => by simp only [SV.sc, decide_eq_true_eq] at hs; simp only [SV.den, hl b hs]
  | .slc b o l c, hs => by simp only [SV.sc, decide_eq_true_eq] at hs; simp only [SV.den, hl b hs]
  | .ptr i o, hs => by simp only [SV.sc, Bool.and_eq_true, decide_eq_true_eq] at hs; simp only [SV.den, atAddr, Env.ptr, h i hs.1, IT.sc_eval h o hs.2]
  | .sl i o l c, hs => by simp only [SV.sc, Bool.and_eq_true, decide_eq_true_eq] at hs; simp only [SV.den, atAddr, Env.ptr, h i hs.1.1.1, IT.sc_eval h o hs.1.1.2, IT.sc_eval h l hs.1.2, IT.sc_eval h c hs.2]
  | .agg l, hs => by simp only [SV.sc] at hs; simp only [SV.den, SV.scs_den h hl l hs]
  | .tup l, hs => by simp only [SV.sc] at hs; simp only [SV.den, SV.scs_den h hl l hs]
  | .fn f a b, hs => by simp only [SV.sc, Bool.and_eq_true] at hs; simp only [SV.den, SV.scs_den h hl a hs.1, SV.scs_den h hl b hs.2]
  | .grd g x, hs => by simp only [SV.sc, Bool.and_eq_true] at hs; simp only [SV.den, BT.sc_eval h g hs.1, SV.sc_den h hl x hs.2]
theorem SV.scs_den {nb nv : Nat} {ρ ρ' : Env} {L L' : List Nat} (h : EqUpTo nv ρ ρ') (hl : EqLoc nb L L') : ∀ l : List SV, SV.scs nb nv l = true → SV.dens L ρ l = SV.dens L' ρ' l
  | [], _ => by simp [SV.dens]
  | x :: l, hs => by simp only [SV.scs, Bool.and_eq_true] at hs; simp only [SV.dens, SV.sc_den h hl x hs.1, SV.scs_den h hl l hs.2]
end
theorem EqUpTo.append (ρ us us' : Env) : EqUpTo ρ.length (ρ ++ us) (ρ ++ us') := fun i hi => by
  rw [List.getElem?_append_left hi, List.getElem?_append_left hi]
theorem EqUpTo.append' (ρ us : Env) : EqUpTo ρ.length ρ (ρ ++ us) := fun i hi => by
  rw [List.getElem?_append_left hi]
theorem EqLoc.append' (L r : List Nat) : EqLoc L.length L (L ++ r) := fun i hi => by
  simp only [List.getD, List.getElem?_append_left hi]
theorem EqLoc.refl (n : Nat) (L : List Nat) : EqLoc n L L := fun _ _ => rfl
theorem EqUpTo.refl (n : Nat) (L : Env) : EqUpTo n L L := fun _ _ => rfl

/-! ### The same by their looks -/
theorem fnEq_eq {f g : Fn} (h : fnEq f g = true) : f = g := by
  cases f <;> cases g <;> simp [fnEq] at h ⊢ <;> exact h
mutual
theorem SV.same_den {L : List Nat} {ρ : Env} : ∀ x y : SV, x.same y = true → x.den L ρ = y.den L ρ
  | .undef, y, h => by cases y <;> simp [SV.same] at h ⊢
  | .junk, y, h => by cases y <;> simp [SV.same] at h
  | .int k t, y, h => by cases y <;> simp [SV.same] at h; obtain ⟨rfl, rfl⟩ := h; rfl
  | .bool t, y, h => by cases y <;> simp [SV.same] at h; subst h; rfl
  | .val i, y, h => by cases y <;> simp [SV.same] at h; subst h; rfl
  | .loc b o, y, h => by cases y <;> simp [SV.same] at h; obtain ⟨rfl, rfl⟩ := h; rfl
  | .slc b o l c, y, h => by cases y <;> simp [SV.same] at h; obtain ⟨⟨⟨rfl, rfl⟩, rfl⟩, rfl⟩ := h; rfl
  | .ptr i o, y, h => by cases y <;> simp [SV.same] at h; obtain ⟨rfl, rfl⟩ := h; rfl
  | .sl i o l c, y, h => by cases y <;> simp [SV.same] at h; obtain ⟨⟨⟨rfl, rfl⟩, rfl⟩, rfl⟩ := h; rfl
  | .agg l, y, h => by cases y <;> simp [SV.same] at h; simp only [SV.den, SV.sames_den l _ h]
  | .tup l, y, h => by cases y <;> simp [SV.same] at h; simp only [SV.den, SV.sames_den l _ h]
  | .fn f a b, y, h => by
    cases y <;> simp [SV.same] at h
    simp only [SV.den, SV.sames_den a _ h.1.2, SV.sames_den b _ h.2, fnEq_eq h.1.1]
  | .grd g x, y, h => by cases y <;> simp [SV.same] at h; obtain ⟨rfl, h⟩ := h; simp only [SV.den, SV.same_den x _ h]
  | .cst v, y, h => by
    unfold SV.same at h
    split at h <;> first | (cases h; done) | skip
    all_goals simp_all [SV.den]
    case h_13 => exact fnEq_eq h.1.1.1.1
    case h_16 => exact ByteArray.ext h
theorem SV.sames_den {L : List Nat} {ρ : Env} : ∀ x y : List SV, SV.sames x y = true → SV.dens L ρ x = SV.dens L ρ y
  | [], y, h => by cases y <;> simp [SV.sames] at h; rfl
  | x :: l, y, h => by
    cases y <;> simp [SV.sames] at h
    simp only [SV.dens, SV.same_den x _ h.1, SV.sames_den l _ h.2]
end

/-! ### The letters of a value of some shape -/
theorem env_ptr_at (ρ : Env) (us : List U) (p : Option Addr) : Env.ptr (ρ ++ (.p p :: us)) ρ.length = p := by
  show (match (ρ ++ (.p p :: us))[ρ.length]? with | some (.p n) => n | _ => none) = p
  rw [List.getElem?_append_right (Nat.le_refl _), Nat.sub_self]; rfl
theorem env_int_at1 (ρ : Env) (us : List U) (u : U) (n : Int) : Env.int (ρ ++ (u :: .i n :: us)) (ρ.length + 1) = n := by
  show (match (ρ ++ (u :: .i n :: us))[ρ.length + 1]? with | some (.i n) => n | _ => 0) = n
  rw [List.getElem?_append_right (by omega), show ρ.length + 1 - ρ.length = 1 by omega]; rfl
theorem env_int_at2 (ρ : Env) (us : List U) (u u' : U) (n : Int) : Env.int (ρ ++ (u :: u' :: .i n :: us)) (ρ.length + 2) = n := by
  show (match (ρ ++ (u :: u' :: .i n :: us))[ρ.length + 2]? with | some (.i n) => n | _ => 0) = n
  rw [List.getElem?_append_right (by omega), show ρ.length + 2 - ρ.length = 2 by omega]; rfl
theorem addr_zero (a : Addr) : a.add 0 = a := if_pos rfl
theorem ptr_shift (ρ : Env) (us : List U) (i : Nat) (o : Int) (L : List U) : (atAddr (ρ ++ (.p (atAddr L i o) :: us)) ρ.length 0) = atAddr L i o := by
  generalize atAddr L i o = x
  unfold atAddr
  rw [env_ptr_at]
  cases x <;> simp [addr_zero]
mutual
theorem us_ok {L : List Nat} {ρ : Env} (he : EnvOk ρ) : ∀ (s : Sh) (x : SV), s.fits x = true → UOk s (s.us L ρ x)
  | .int k, x, h => by cases x <;> simp [Sh.fits] at h; exact ⟨_, rfl⟩
  | .bool, x, h => by cases x <;> simp [Sh.fits] at h; exact ⟨_, rfl⟩
  | .val, x, h => by
    simp only [Sh.fits, Bool.and_eq_true] at h
    exact ⟨_, rfl, SV.one_den he h.1⟩
  | .ptr, x, h => by
    cases x with
    | ptr i o => exact ⟨_, rfl⟩
    | loc b o => exact ⟨_, rfl⟩
    | cst v => cases v with
      | pointer a => cases a with
        | none => exact ⟨_, rfl⟩
        | some _ => simp [Sh.fits] at h
      | _ => simp [Sh.fits] at h
    | _ => simp [Sh.fits] at h
  | .sl, x, h => by
    cases x with
    | sl i o l c => exact ⟨_, _, _, rfl⟩
    | slc b o l c => exact ⟨_, _, _, rfl⟩
    | cst v => cases v with
      | slice a l c => cases a with
        | none => exact ⟨_, _, _, rfl⟩
        | some _ => simp [Sh.fits] at h
      | _ => simp [Sh.fits] at h
    | _ => simp [Sh.fits] at h
  | .agg l, x, h => by cases x <;> simp [Sh.fits] at h; unfold Sh.us; exact uss_ok he l _ h
  | .tup l, x, h => by cases x <;> simp [Sh.fits] at h; unfold Sh.us; exact uss_ok he l _ h
theorem uss_ok {L : List Nat} {ρ : Env} (he : EnvOk ρ) : ∀ (s : List Sh) (x : List SV), Sh.fitss s x = true → UsOk s (Sh.uss L ρ s x)
  | [], x, h => by cases x <;> simp [Sh.fitss] at h; simp [Sh.uss, UsOk]
  | s :: ss, x, h => by
    cases x with
    | nil => simp [Sh.fitss] at h
    | cons x l =>
      simp only [Sh.fitss, Bool.and_eq_true] at h
      exact ⟨_, _, rfl, us_ok he s x h.1, uss_ok he ss l h.2⟩
end
mutual
theorem us_den {L L' : List Nat} {ρ : Env} (he : EnvOk ρ) : ∀ (s : Sh) (x : SV), s.fits x = true → ∀ (ρ0 ρ1 : Env), (s.fresh ρ0.length).1.den L' (ρ0 ++ (s.us L ρ x ++ ρ1)) = x.den L ρ
  | .int k, x, h, ρ0, ρ1 => by cases x <;> simp [Sh.fits] at h; subst h; simp [Sh.fresh, Sh.us, SV.den, IT.eval, Env.int]
  | .bool, x, h, ρ0, ρ1 => by cases x <;> simp [Sh.fits] at h; simp [Sh.fresh, Sh.us, SV.den, BT.eval, Env.bool]
  | .val, x, h, ρ0, ρ1 => by simp [Sh.fresh, Sh.us, SV.den, Env.val]
  | .ptr, x, h, ρ0, ρ1 => by
    cases x with
    | ptr i o => simp only [Sh.fresh, Sh.us, SV.den, IT.eval, List.cons_append, List.nil_append, ptr_shift]
    | loc b o => simp only [Sh.fresh, Sh.us, SV.den, IT.eval, List.cons_append, List.nil_append, atAddr, env_ptr_at]; simp [addr_zero]
    | cst v => cases v with
      | pointer a => cases a with
        | none => simp only [Sh.fresh, Sh.us, SV.den, IT.eval, List.cons_append, List.nil_append, atAddr, env_ptr_at]; simp [addr_zero]
        | some _ => simp [Sh.fits] at h
      | _ => simp [Sh.fits] at h
    | _ => simp [Sh.fits] at h
  | .sl, x, h, ρ0, ρ1 => by
    cases x with
    | sl i o l c => simp only [Sh.fresh, Sh.us, SV.den, IT.eval, List.cons_append, List.nil_append, ptr_shift, env_int_at1, env_int_at2]
    | slc b o l c => simp only [Sh.fresh, Sh.us, SV.den, IT.eval, List.cons_append, List.nil_append, atAddr, env_ptr_at, env_int_at1, env_int_at2]; simp [addr_zero]
    | cst v => cases v with
      | slice a l c => cases a with
        | none => simp only [Sh.fresh, Sh.us, SV.den, IT.eval, List.cons_append, List.nil_append, atAddr, env_ptr_at, env_int_at1, env_int_at2]; simp [addr_zero]
        | some _ => simp [Sh.fits] at h
      | _ => simp [Sh.fits] at h
    | _ => simp [Sh.fits] at h
  | .agg l, x, h, ρ0, ρ1 => by cases x <;> simp [Sh.fits] at h; simp only [Sh.fresh, Sh.us, SV.den, uss_den he l _ h ρ0 ρ1]
  | .tup l, x, h, ρ0, ρ1 => by cases x <;> simp [Sh.fits] at h; simp only [Sh.fresh, Sh.us, SV.den, uss_den he l _ h ρ0 ρ1]
theorem uss_den {L L' : List Nat} {ρ : Env} (he : EnvOk ρ) : ∀ (s : List Sh) (x : List SV), Sh.fitss s x = true → ∀ (ρ0 ρ1 : Env), SV.dens L' (ρ0 ++ (Sh.uss L ρ s x ++ ρ1)) (Sh.freshs s ρ0.length).1 = SV.dens L ρ x
  | [], x, h, ρ0, ρ1 => by cases x <;> simp [Sh.fitss] at h; simp [Sh.freshs, SV.dens]
  | s :: ss, x, h, ρ0, ρ1 => by
    cases x with
    | nil => simp [Sh.fitss] at h
    | cons x l =>
      simp only [Sh.fitss, Bool.and_eq_true] at h
      have h1 := us_den (L := L) (L' := L') he s x h.1 ρ0 (Sh.uss L ρ ss l ++ ρ1)
      have h2 := uss_den (L := L) (L' := L') he ss l h.2 (ρ0 ++ s.us L ρ x) ρ1
      have hlen := fresh_len s _ ρ0.length (us_ok (L := L) he s x h.1)
      simp only [Sh.freshs, Sh.uss, SV.dens, hlen, List.append_assoc] at h1 h2 ⊢
      rw [h1]
      simp only [List.length_append] at h2
      rw [h2]
end
end Go.Sy
