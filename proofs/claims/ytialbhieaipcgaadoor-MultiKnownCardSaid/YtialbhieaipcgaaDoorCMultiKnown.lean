/- MultiKnown: for every input the law returns true, and its arguments read as before. There is no condition beside the statement's own. -/
import Derived.Test.YtialbhieaipcgaaDoorYw
import Derived.Test.YtialbhieaipcgaaDoorBt
import Derived.Test.YtialbhieaipcgaaDoorTie
import Derived.Test.YtialbhieaipcgaaDoorCards
set_option linter.unusedSimpArgs false
set_option linter.unusedVariables false
namespace Go.Proofs.YtialbhieaipcgaaDoor
open Go Go.Sy Go.ChangeShapes Go.WideShapes Go.ChangeAt Go.WideElems Go.RowKit Go.Joins Go.Deep
set_option maxRecDepth 100000 in
theorem multiKnown_lifted (os : Os) (started : os.Started) (H : Type) (enc : TypeId × Value → H) :
    ReturnsInHanded {} Tryd.checked os 14 .any (fun w args => (Rows.multiKnownSpec.pre enc Tryd.prog Tryd.f14 [] false w args ∧ laidMetH Tryd.prog laidL w) ∧ sizedMet enc Tryd.prog Tryd.f14 (OpenSpec.ofChange Rows.multiKnownSpec) false w args) (Rows.multiKnownSpec.post enc Tryd.prog Tryd.f14 false true false false) :=
  law_lifted (tb := 4) #[] (by kernel_rfl) Tryd.func14 rfl (by kernel_rfl) (by kernel_rfl) Tryd.underlying4 (fun H ds h => by
    rw [Tryd.params14] at h
    match ds, h with
    | [], _ => rfl) os started H enc (World.shaped_of_RefB (by kernel_rfl) (by kernel_rfl)) (by kernel_rfl) (by kernel_rfl) (by kernel_rfl) fun W base args ds p hT hval hA => by
    rw [Tryd.params14] at hA hval
    obtain ⟨rfl, rfl, rfl⟩ := trodAll_none hA
    
    have hcall := l_MultiKnown
    exact ⟨_, _, rfl, hT, hcall⟩
theorem multiKnown_holds : Rows.MultiKnownSaid :=
  OpenClaim.holds_of_wide 14 Tryd.f14 rfl rfl rfl rfl rfl rfl rfl ⟨rfl, rfl, rfl, rfl, rfl⟩ rfl rfl rfl rfl rfl (by kernel_rfl) Tryd.func14 (by kernel_rfl)
    (of_decide_eq_true (by kernel_rfl)) (by unfold Func.isWrapper; first | (rw [if_pos (by decide +kernel)]; kernel_rfl) | (rw [if_neg (by decide +kernel)]; exact ⟨rfl, rfl⟩))
    (fun os started H enc _ => multiKnown_lifted os started H enc)
theorem multiKnown_card : Rows.MultiKnownCardSaid :=
  Claim7.holds_tied_plain_at .later [] [.data, .funcs] true (true, "9a77b33697a57e2dd38154b015add442cf2b6e8c5519e984bd1cf7a00083c174") false
    multiKnown_holds (fun _ h => by cases h) (by kernel_rfl) (fun _ h => by cases h) multiKnown_row_tie rfl ⟨rfl, rfl⟩ (by kernel_rfl) rfl
    (fun f fn hf hfn => by
      obtain rfl : f = 14 := Option.some.inj ((show Tryd.prog.funcNamed "ablaut/ablautlaw18.MultiKnown" = some 14 by kernel_rfl).symm.trans hf) |>.symm
      obtain rfl : fn = Tryd.f14 := (Option.some.inj (Tryd.func14.symm.trans hfn)).symm
      exact ⟨by kernel_rfl, fun j t ht => by
        rw [Tryd.params14] at ht
        have := Array.mem_of_getElem? ht
        simp at this⟩)
    (by kernel_rfl)
#print axioms multiKnown_card
end Go.Proofs.YtialbhieaipcgaaDoor
