/- Chapter 30: a slice of a whole array; what is good, checked. -/
import Derived.Test.YtpbbnmjkbfbelabDoorZc
set_option linter.unusedSimpArgs false
set_option linter.unusedVariables false
namespace Go.Sy
open Go Go.RowKit
section
variable {P : Program} {c : Cx} {L : List Nat} {ρ : Env} {blks : List Blk} {m : Mem} {R : Value → HW → Prop} {Dn : Nat → List U → HW → Prop} {A : List (List U → HW → Prop)}
theorem DenM.sliceAll {t ty : TypeId} {x : Operand} {sv : SV} {k : Tree} {b : Nat} (n : Nat) (hn : 0 < n) (hu : P.underlying t = some (.array (P.arrayLen t) (P.elem t))) (hl : P.arrayLen t = n) (hz : (P.info? (P.elem t)).map (·.size) = some 1) (hv : sv.den L ρ = .pointer (some ⟨b, 0, none⟩))
    (hk : DenM P R Dn k L (ρ ++ [.p (some ⟨b, 0, none⟩), .i (n : Nat), .i (n : Nat)]) c m A) : DenM P R Dn (.extp ⟨.slice t x none none none, ty, [sv]⟩ .sl blks k) L ρ c m A := by
  refine .extp _ (uOk_of rfl) (fun _ w _ => ?_) hk
  show (XOp.sem (.slice t x none none none) ty [sv.den L ρ]).run P w = _
  rw [hv, slv_fresh]
  show (do pure (Next.value (← Instr.sliceAt t (.pointer (some ⟨b, 0, none⟩)) none none none)) : Sem Next).run P w = _
  have hs : (Go.sizeOf (P.elem t)).run P w = .ok 1 w := by
    cases hi : P.info? (P.elem t) with
    | none => rw [hi] at hz; cases hz
    | some i =>
      rw [hi] at hz
      have : i.size = 1 := by simpa using hz
      simp [Go.sizeOf, typeInfo, hi, this]
  rw [Sem.run_bind, run_sliceAt_array_all w t ⟨b, 0, none⟩ hu, hs, hl]
  show Result.ok (Next.value (slicedAt ⟨b, 0, none⟩ 0 n n 1)) w = _
  congr 2
  unfold slicedAt slv
  rw [if_neg (by omega)]
  rfl
end
theorem chkM_of {ms : List MD} {l : List (List Snd)} (h1 : ms.length ≤ 256) (h2 : ∀ x ∈ ms, checkW x.a.w = 0 ∧ checkW x.b.w = 0) (h3 : ∀ w ∈ l, checkW w = 0) : chkM ms l = 0 := by
  unfold chkM
  rw [if_neg (by omega)]
  refine checkL_ofAll fun w hw => ?_
  rcases List.mem_append.1 hw with hw | hw
  · unfold mwords at hw
    obtain ⟨x, hx, hw⟩ := List.mem_flatMap.1 hw
    simp only [List.mem_cons, List.not_mem_nil, or_false] at hw
    rcases hw with rfl | rfl
    · exact (h2 x hx).1
    · exact (h2 x hx).2
  · exact h3 w hw
theorem costM_ok {ws : List Int} {gap : Int} {ms : List MD} {f r a : List Snd} (hc : checkC ws gap = 0) (hk : chkM ms [f, r, a] = 0) : costM ws gap ms f r a = (if r = a then 0 else if ms.any (supM f a) = true then min (costE ws gap [r, a] (progE ws gap [r, a] 2)) gap else costE ws gap [r, a] (progE ws gap [r, a] 2), 0) := by
  unfold costM
  rw [if_neg (by simp [hc]), if_neg (by simp [hk])]
  split <;> rfl
end Go.Sy
