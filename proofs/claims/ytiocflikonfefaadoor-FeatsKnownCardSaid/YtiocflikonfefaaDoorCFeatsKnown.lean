/- FeatsKnown: for every input the law returns true, and its arguments read as before. There is no condition beside the statement's own. -/
import Derived.Test.YtiocflikonfefaaDoorLf
import Derived.Test.YtiocflikonfefaaDoorWb
import Derived.Test.YtiocflikonfefaaDoorTie
import Derived.Test.YtiocflikonfefaaDoorCards
set_option linter.unusedSimpArgs false
set_option linter.unusedVariables false
namespace Go.Proofs.YtiocflikonfefaaDoor
open Go Go.Sy Go.ChangeShapes Go.WideShapes Go.ChangeAt Go.WideElems Go.RowKit Go.Joins Go.Deep
set_option maxRecDepth 100000 in
theorem featsKnown_lifted (os : Os) (started : os.Started) (H : Type) (enc : TypeId × Value → H) :
    ReturnsInHanded {} Tryd.checked os 14 .any (fun w args => (Rows.featsKnownSpec.pre enc Tryd.prog Tryd.f14 [] false w args ∧ laidMetH Tryd.prog laidL w) ∧ sizedMet enc Tryd.prog Tryd.f14 (OpenSpec.ofChange Rows.featsKnownSpec) false w args) (Rows.featsKnownSpec.post enc Tryd.prog Tryd.f14 false true false false) :=
  law_lifted (tb := 4) #[] (by kernel_rfl) Tryd.func14 rfl (by kernel_rfl) (by kernel_rfl) Tryd.underlying4 (fun H ds h => by
    rw [Tryd.params14] at h
    match ds, h with
    | [], _ => rfl) os started H enc (World.shaped_of_RefB (by kernel_rfl) (by kernel_rfl)) (by kernel_rfl) (by kernel_rfl) (by kernel_rfl) fun W base args ds p hT hval hA => by
    rw [Tryd.params14] at hA hval
    obtain ⟨rfl, rfl, rfl⟩ := trodAll_none hA
    
    exact ⟨_, _, rfl, hT, l_FeatsKnown⟩
theorem featsKnown_holds : Rows.FeatsKnownSaid :=
  OpenClaim.holds_of_wide 14 Tryd.f14 rfl rfl rfl rfl rfl rfl rfl ⟨rfl, rfl, rfl, rfl, rfl⟩ rfl rfl rfl rfl rfl (by kernel_rfl) Tryd.func14 (by kernel_rfl)
    (of_decide_eq_true (by kernel_rfl)) (by unfold Func.isWrapper; first | (rw [if_pos (by decide +kernel)]; kernel_rfl) | (rw [if_neg (by decide +kernel)]; exact ⟨rfl, rfl⟩))
    (fun os started H enc _ => featsKnown_lifted os started H enc)
theorem featsKnown_card : Rows.FeatsKnownCardSaid :=
  Claim7.holds_tied_plain_at .later [] [.data] true (true, "3940ddc66dbd6f30dccfecabc2a23e3f0cb923afc55146746b1ff97c13b1d018") false
    featsKnown_holds (fun _ h => by cases h) (by kernel_rfl) (fun _ h => by cases h) featsKnown_row_tie rfl ⟨rfl, rfl⟩ (by kernel_rfl) rfl
    (fun f fn hf hfn => by
      obtain rfl : f = 14 := Option.some.inj ((show Tryd.prog.funcNamed "ablaut/ablautlaw01.FeatsKnown" = some 14 by kernel_rfl).symm.trans hf) |>.symm
      obtain rfl : fn = Tryd.f14 := (Option.some.inj (Tryd.func14.symm.trans hfn)).symm
      exact ⟨by kernel_rfl, fun j t ht => by
        rw [Tryd.params14] at ht
        have := Array.mem_of_getElem? ht
        simp at this⟩)
    (by kernel_rfl)
#print axioms featsKnown_card
end Go.Proofs.YtiocflikonfefaaDoor
