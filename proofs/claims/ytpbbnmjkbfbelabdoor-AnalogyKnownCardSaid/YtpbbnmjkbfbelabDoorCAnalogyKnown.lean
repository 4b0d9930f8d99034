/- AnalogyKnown: for every input the law returns true, and its arguments read as before. There is no condition beside the statement's own. -/
import Derived.Test.YtpbbnmjkbfbelabDoorZg
import Derived.Test.YtpbbnmjkbfbelabDoorWd
import Derived.Test.YtpbbnmjkbfbelabDoorTie
import Derived.Test.YtpbbnmjkbfbelabDoorCards
set_option linter.unusedSimpArgs false
set_option linter.unusedVariables false
namespace Go.Proofs.YtpbbnmjkbfbelabDoor
open Go Go.Sy Go.ChangeShapes Go.WideShapes Go.ChangeAt Go.WideElems Go.RowKit Go.Joins Go.Deep
set_option maxRecDepth 100000 in
theorem analogyKnown_lifted (os : Os) (started : os.Started) (H : Type) (enc : TypeId × Value → H) :
    ReturnsInHanded {} Tryd.checked os 4 .any (fun w args => (Rows.analogyKnownSpec.pre enc Tryd.prog Tryd.f4 [] false w args ∧ laidMetH Tryd.prog laidL w) ∧ sizedMet enc Tryd.prog Tryd.f4 (OpenSpec.ofChange Rows.analogyKnownSpec) false w args) (Rows.analogyKnownSpec.post enc Tryd.prog Tryd.f4 false true false false) :=
  law_lifted (tb := 4) #[] (by kernel_rfl) Tryd.func4 rfl (by kernel_rfl) (by kernel_rfl) Tryd.underlying4 (fun H ds h => by
    rw [Tryd.params4] at h
    match ds, h with
    | [], _ => rfl) os started H enc (World.shaped_of_RefB (by kernel_rfl) (by kernel_rfl)) (by kernel_rfl) (by kernel_rfl) (by kernel_rfl) fun W base args ds p hT hval hA => by
    rw [Tryd.params4] at hA hval
    obtain ⟨rfl, rfl, rfl⟩ := trodAll_none hA
    
    have hcall := l_AnalogyKnown
    exact ⟨_, _, rfl, hT, hcall⟩
theorem analogyKnown_holds : Rows.AnalogyKnownSaid :=
  OpenClaim.holds_of_wide 4 Tryd.f4 rfl rfl rfl rfl rfl rfl rfl ⟨rfl, rfl, rfl, rfl, rfl⟩ rfl rfl rfl rfl rfl (by kernel_rfl) Tryd.func4 (by kernel_rfl)
    (of_decide_eq_true (by kernel_rfl)) (by unfold Func.isWrapper; first | (rw [if_pos (by decide +kernel)]; kernel_rfl) | (rw [if_neg (by decide +kernel)]; exact ⟨rfl, rfl⟩))
    (fun os started H enc _ => analogyKnown_lifted os started H enc)
theorem analogyKnown_card : Rows.AnalogyKnownCardSaid :=
  Claim7.holds_tied_plain_at .later [] [.data, .funcs, .funcs, .funcs] true (true, "66bade4f205ab6d538d6b9a5e51096ec3f54fc727400ed025a8822c69760e6f2") false
    analogyKnown_holds (fun _ h => by cases h) (by kernel_rfl) (fun _ h => by cases h) analogyKnown_row_tie rfl ⟨rfl, rfl⟩ (by kernel_rfl) rfl
    (fun f fn hf hfn => by
      obtain rfl : f = 4 := Option.some.inj ((show Tryd.prog.funcNamed "ablaut/ablautlaw30.AnalogyKnown" = some 4 by kernel_rfl).symm.trans hf) |>.symm
      obtain rfl : fn = Tryd.f4 := (Option.some.inj (Tryd.func4.symm.trans hfn)).symm
      exact ⟨by kernel_rfl, fun j t ht => by
        rw [Tryd.params4] at ht
        have := Array.mem_of_getElem? ht
        simp at this⟩)
    (by kernel_rfl)
#print axioms analogyKnown_card
end Go.Proofs.YtpbbnmjkbfbelabDoor
