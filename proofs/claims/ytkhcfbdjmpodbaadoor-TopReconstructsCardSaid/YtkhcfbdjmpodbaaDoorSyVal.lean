/- The executor's values are what the run has: letters, guards, one operation. -/
import Derived.Test.YtkhcfbdjmpodbaaDoorSyDef
import Derived.ChangeKeysEq
import Derived.Laws.Cells
import Derived.Laws.Tables
import Derived.Laws.CopyRow
import Derived.Laws.StructEq
set_option linter.unusedSimpArgs false
set_option linter.unusedVariables false
namespace Go.Sy
open Go

theorem BT.mkNot_eval (ρ : Env) (x : BT) : (BT.mkNot x).eval ρ = !x.eval ρ := by
  cases x <;> simp [BT.mkNot, BT.eval]
theorem BT.mkPick_eval (ρ : Env) (c x y : BT) : (BT.mkPick c x y).eval ρ = bif c.eval ρ then x.eval ρ else y.eval ρ := by
  unfold BT.mkPick
  split
  · simp [BT.eval]
  · simp [BT.eval]
  · split
    · rename_i h; subst h; cases c.eval ρ <;> simp
    · simp [BT.eval]
theorem BT.mkAnd_eval (ρ : Env) (x y : BT) : (BT.mkAnd x y).eval ρ = (x.eval ρ && y.eval ρ) := by
  unfold BT.mkAnd
  split
  · simp [BT.eval]
  · rw [BT.mkPick_eval]; cases x.eval ρ <;> simp [BT.eval]
theorem BT.mkCmp_eval (ρ : Env) (op : BinOp) (x y : IT) : (BT.mkCmp op x y).eval ρ = cm op (x.eval ρ) (y.eval ρ) := by
  unfold BT.mkCmp
  split <;> simp [BT.eval, IT.eval]
theorem BT.mkBeq_eval (ρ : Env) (x y : BT) : (BT.mkBeq x y).eval ρ = (x.eval ρ == y.eval ρ) := by
  unfold BT.mkBeq
  split <;> simp [BT.eval]
theorem IT.mkBin_eval (ρ : Env) (op : BinOp) (k : IntKind) (x y : IT) : (IT.mkBin op k x y).eval ρ = ar op k (x.eval ρ) (y.eval ρ) := by
  unfold IT.mkBin
  split <;> simp [IT.eval]
theorem IT.mkConv_eval (ρ : Env) (k : IntKind) (x : IT) : (IT.mkConv k x).eval ρ = k.wrap (x.eval ρ) := by
  unfold IT.mkConv
  split <;> simp [IT.eval]
theorem IT.mkDif_eval (ρ : Env) (x y : IT) : (IT.mkDif x y).eval ρ = x.eval ρ - y.eval ρ := by
  unfold IT.mkDif; split <;> simp [IT.eval]
theorem IT.mkIfeq_eval (ρ : Env) (a b x y : IT) : (IT.mkIfeq a b x y).eval ρ = if a.eval ρ = b.eval ρ then x.eval ρ else y.eval ρ := by
  unfold IT.mkIfeq; split
  · rename_i m n; simp only [IT.eval]; by_cases h : m = n <;> simp [h]
  · rfl
theorem IT.mkOff_eval (ρ : Env) (x : IT) (s : Nat) (b : IT) : (IT.mkOff x s b).eval ρ = b.eval ρ + x.eval ρ * s := by
  unfold IT.mkOff
  split <;> simp [IT.eval]
theorem BT.subst_eval (ρ : Env) (c : BT) (b : Bool) (h : c.eval ρ = b) : ∀ t : BT, (BT.subst c b t).eval ρ = t.eval ρ := by
  intro t
  induction t with
  | not x ih => unfold BT.subst; split; · rename_i e; rw [e, h]; rfl
                · simp [BT.mkNot_eval, ih, BT.eval]
  | pick d x y i1 i2 i3 => unfold BT.subst; split; · rename_i e; rw [e, h]; rfl
                           · simp [BT.mkPick_eval, i1, i2, i3, BT.eval]
  | beq x y i1 i2 => unfold BT.subst; split; · rename_i e; rw [e, h]; rfl
                     · simp [BT.mkBeq_eval, i1, i2, BT.eval]
  | _ => unfold BT.subst; split; · rename_i e; rw [e, h]; rfl
         · rfl
theorem BT.gives_eval (ρ : Env) : ∀ (g d : BT), g.gives d = true → g.eval ρ = true → d.eval ρ = true := by
  intro g
  induction g with
  | pick c x y i1 i2 i3 =>
    intro d h he
    unfold BT.gives at h
    simp only [Bool.or_eq_true, beq_iff_eq] at h
    rcases h with h | h
    · rw [← h]; exact he
    · split at h
      · rename_i e; cases e
        simp only [BT.eval] at he
        simp only [Bool.or_eq_true] at h
        cases hc : c.eval ρ
        · simp [hc] at he
        · simp [hc] at he
          rcases h with h | h
          · exact i1 d h hc
          · exact i2 d h he
      · cases h
  | _ =>
    intro d h he
    unfold BT.gives at h
    simp only [Bool.or_eq_true, beq_iff_eq, Bool.false_eq_true, or_false] at h
    rw [← h]; exact he

theorem SV.dens_eq (L : List Nat) (ρ : Env) : ∀ l : List SV, SV.dens L ρ l = l.map (SV.den L ρ)
  | [] => by simp [SV.dens]
  | x :: l => by simp [SV.dens, SV.dens_eq L ρ l]

def EnvOk (ρ : Env) : Prop := ∀ (i : Nat) (v : Value), ρ[i]? = some (U.v v) → v.oneCell' = true
theorem EnvOk.val {ρ : Env} (h : EnvOk ρ) (i : Nat) : (ρ.val i).oneCell' = true := by
  unfold Env.val
  cases hi : ρ[i]? with
  | none => rfl
  | some u => cases u <;> first | exact h i _ hi | rfl
theorem SV.one_den {L : List Nat} {ρ : Env} (he : EnvOk ρ) {x : SV} (h : x.one = true) : (x.den L ρ).oneCell' = true := by
  cases x
  case val i => exact he.val i
  case cst v => cases v <;> simp [SV.one, SV.den, Value.oneCell'] at h ⊢
  all_goals simp [SV.one, SV.den, Value.oneCell'] at h ⊢

def Rel (L : List Nat) (ρ : Env) (x : SV) (v : Value) : Prop := x = .junk ∨ v = x.den L ρ
theorem Rel.firm {L : List Nat} {ρ : Env} {x : SV} {v : Value} (h : Rel L ρ x v) (hx : x.firm = true) : v = x.den L ρ := by
  rcases h with rfl | h
  · cases hx
  · exact h
theorem Rel.of_ne {L : List Nat} {ρ : Env} {x : SV} {v : Value} (h : Rel L ρ x v) (hx : x ≠ .junk) : v = x.den L ρ := h.resolve_left hx
theorem ofValue_den (L : List Nat) (ρ : Env) (v : Value) : (ofValue v).den L ρ = v := by
  cases v <;> simp [ofValue, SV.den, IT.eval, BT.eval]
theorem Rel.mkGrd {L : List Nat} {ρ : Env} {g : BT} {x : SV} {v : Value} (h1 : g.eval ρ = true → Rel L ρ x v) (h2 : g.eval ρ = false → v = Go.undef) : Rel L ρ (SV.mkGrd g x) v := by
  by_cases hx : x = .junk
  · subst hx; exact .inl rfl
  · have : SV.mkGrd g x = .grd g x := by cases x <;> first | rfl | exact absurd rfl hx
    rw [this]; right
    cases hg : g.eval ρ
    · simp [SV.den, hg, h2 hg]
    · simp only [SV.den, hg, cond_true]; exact (h1 hg).of_ne hx
theorem Rel.under {L : List Nat} {ρ : Env} {g : BT} (hg : g.eval ρ = true) : ∀ (x : SV) {v : Value}, Rel L ρ x v → Rel L ρ (x.under g) v
  | .grd d x, v, h => by
    unfold SV.under
    by_cases hd : g.gives d = true
    · rw [if_pos hd]
      have hv := h.of_ne (by simp)
      simp only [SV.den, BT.gives_eval ρ g d hd hg, cond_true] at hv
      exact Rel.under hg x (.inr hv)
    · rw [if_neg hd]; exact h
  | .undef, _, h | .junk, _, h | .int .., _, h | .bool _, _, h | .val _, _, h | .loc .., _, h | .slc .., _, h | .ptr .., _, h | .sl .., _, h | .agg _, _, h | .tup _, _, h | .fn .., _, h | .cst _, _, h => by
    unfold SV.under; exact h
theorem Rel.subst {L : List Nat} {ρ : Env} {c : BT} {b : Bool} (hc : c.eval ρ = b) : ∀ (x : SV) {v : Value}, Rel L ρ x v → Rel L ρ (SV.subst c b x) v
  | .bool t, v, h => by
    have hv := h.of_ne (by simp)
    unfold SV.subst
    right; rw [hv]; simp [SV.den, BT.subst_eval ρ c b hc]
  | .grd g x, v, h => by
    have hv := h.of_ne (by simp)
    have he := BT.subst_eval ρ c b hc g
    unfold SV.subst
    simp only [SV.den] at hv
    split
    · rename_i e
      rw [e] at he; simp only [BT.eval] at he
      simp only [← he, cond_true] at hv
      exact Rel.subst hc x (.inr hv)
    · rename_i e
      rw [e] at he; simp only [BT.eval] at he
      simp only [← he, cond_false] at hv
      exact .inr hv
    · refine Rel.mkGrd (fun h1 => ?_) (fun h1 => ?_)
      · rw [he] at h1; simp only [h1, cond_true] at hv; exact Rel.subst hc x (.inr hv)
      · rw [he] at h1; simp only [h1, cond_false] at hv; exact hv
  | .undef, _, h | .junk, _, h | .int .., _, h | .val _, _, h | .loc .., _, h | .slc .., _, h | .ptr .., _, h | .sl .., _, h | .agg _, _, h | .tup _, _, h | .fn .., _, h | .cst _, _, h => by
    unfold SV.subst; exact h
end Go.Sy
