/- EditKnown: for every input the law returns true, and its arguments read as before. There is no condition beside the statement's own. -/
import Derived.Test.YtedfogpnmpmggaaDoorHx
import Derived.Test.YtedfogpnmpmggaaDoorWc
import Derived.Test.YtedfogpnmpmggaaDoorTie
import Derived.Test.YtedfogpnmpmggaaDoorCards
set_option linter.unusedSimpArgs false
set_option linter.unusedVariables false
namespace Go.Proofs.YtedfogpnmpmggaaDoor
open Go Go.Sy Go.ChangeShapes Go.WideShapes Go.ChangeAt Go.WideElems Go.RowKit Go.Joins Go.Deep
set_option maxRecDepth 100000 in
theorem editKnown_lifted (os : Os) (started : os.Started) (H : Type) (enc : TypeId × Value → H) :
    ReturnsInHanded {} Tryd.checked os 12 .any (fun w args => (Rows.editKnownSpec.pre enc Tryd.prog Tryd.f12 [] false w args ∧ laidMetH Tryd.prog laidL w) ∧ sizedMet enc Tryd.prog Tryd.f12 (OpenSpec.ofChange Rows.editKnownSpec) false w args) (Rows.editKnownSpec.post enc Tryd.prog Tryd.f12 false true false false) :=
  law_lifted (tb := 4) #[] (by kernel_rfl) Tryd.func12 rfl (by kernel_rfl) (by kernel_rfl) Tryd.underlying4 (fun H ds h => by
    rw [Tryd.params12] at h
    match ds, h with
    | [], _ => rfl) os started H enc (World.shaped_of_RefB (by kernel_rfl) (by kernel_rfl)) (by kernel_rfl) (by kernel_rfl) (by kernel_rfl) fun W base args ds p hT hval hA => by
    rw [Tryd.params12] at hA hval
    obtain ⟨rfl, rfl, rfl⟩ := trodAll_none hA
    
    exact ⟨_, _, rfl, hT, l_EditKnown⟩
theorem editKnown_holds : Rows.EditKnownSaid :=
  OpenClaim.holds_of_wide 12 Tryd.f12 rfl rfl rfl rfl rfl rfl rfl ⟨rfl, rfl, rfl, rfl, rfl⟩ rfl rfl rfl rfl rfl (by kernel_rfl) Tryd.func12 (by kernel_rfl)
    (of_decide_eq_true (by kernel_rfl)) (by unfold Func.isWrapper; first | (rw [if_pos (by decide +kernel)]; kernel_rfl) | (rw [if_neg (by decide +kernel)]; exact ⟨rfl, rfl⟩))
    (fun os started H enc _ => editKnown_lifted os started H enc)
theorem editKnown_card : Rows.EditKnownCardSaid :=
  Claim7.holds_tied_plain_at .later [] [.data] true (true, "afe5bbe106398cd9cd67dd048aec4c741dfcb00040ef3a1f6b32584d5db75a0e") false
    editKnown_holds (fun _ h => by cases h) (by kernel_rfl) (fun _ h => by cases h) editKnown_row_tie rfl ⟨rfl, rfl⟩ (by kernel_rfl) rfl
    (fun f fn hf hfn => by
      obtain rfl : f = 12 := Option.some.inj ((show Tryd.prog.funcNamed "ablaut/ablautlaw17.EditKnown" = some 12 by kernel_rfl).symm.trans hf) |>.symm
      obtain rfl : fn = Tryd.f12 := (Option.some.inj (Tryd.func12.symm.trans hfn)).symm
      exact ⟨by kernel_rfl, fun j t ht => by
        rw [Tryd.params12] at ht
        have := Array.mem_of_getElem? ht
        simp at this⟩)
    (by kernel_rfl)
#print axioms editKnown_card
end Go.Proofs.YtedfogpnmpmggaaDoor
