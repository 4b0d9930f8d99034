/- CognatesSets: for every input the law returns true, and its arguments read as before. There is no condition beside the statement's own. -/
import Derived.Test.YthabfpagilbplaaDoorRk
import Derived.Test.YthabfpagilbplaaDoorWf
import Derived.Test.YthabfpagilbplaaDoorWd
import Derived.Test.YthabfpagilbplaaDoorTie
import Derived.Test.YthabfpagilbplaaDoorCards
set_option linter.unusedSimpArgs false
set_option linter.unusedVariables false
namespace Go.Proofs.YthabfpagilbplaaDoor
open Go Go.Sy Go.ChangeShapes Go.WideShapes Go.ChangeAt Go.WideElems Go.RowKit Go.Joins Go.Deep
set_option maxRecDepth 100000 in
theorem cognatesSets_lifted (os : Os) (started : os.Started) (H : Type) (enc : TypeId × Value → H) :
    ReturnsInHanded {} Tryd.checked os 10 .any (fun w args => (Rows.cognatesSetsSpec.pre enc Tryd.prog Tryd.f10 [] false w args ∧ laidMetH Tryd.prog laidL w) ∧ sizedMet enc Tryd.prog Tryd.f10 (OpenSpec.ofChange Rows.cognatesSetsSpec) false w args) (Rows.cognatesSetsSpec.post enc Tryd.prog Tryd.f10 false true false false) :=
  law_lifted (tb := 4) #[.slice none 0 0] (by kernel_rfl) Tryd.func10 rfl (by kernel_rfl) (by kernel_rfl) Tryd.underlying4 (fun H ds h => by
    rw [Tryd.params10] at h
    match ds, h with
    | [_], _ => rfl) os started H enc (World.shaped_of_RefB (by kernel_rfl) (by kernel_rfl)) (by kernel_rfl) (by kernel_rfl) (by kernel_rfl) fun W base args ds p hT hval hA => by
    rw [Tryd.params10] at hA hval
    obtain ⟨v0, d0, rfl, rfl, h0⟩ := trodAll_one hA
    obtain ⟨a, rfl, ha⟩ := arg_slN Tryd.underlying30 (show Tryd.prog.cellsOf 3 = 1 by kernel_rfl) (reads_int (k := .i64) Tryd.underlying3) (hval 0 30 v0 rfl rfl) h0
    have hcall := l_CognatesSets a.p a.cap a.l (len62 ha.2.2.1)
    exact ⟨_, _, rfl, ⟨cellsI ha.1, hT⟩, hcall⟩
theorem cognatesSets_holds : Rows.CognatesSetsSaid :=
  OpenClaim.holds_of_wide 10 Tryd.f10 rfl rfl rfl rfl rfl rfl rfl ⟨rfl, rfl, rfl, rfl, rfl⟩ rfl rfl rfl rfl rfl (by kernel_rfl) Tryd.func10 (by kernel_rfl)
    (of_decide_eq_true (by kernel_rfl)) (by unfold Func.isWrapper; first | (rw [if_pos (by decide +kernel)]; kernel_rfl) | (rw [if_neg (by decide +kernel)]; exact ⟨rfl, rfl⟩))
    (fun os started H enc _ => cognatesSets_lifted os started H enc)
theorem cognatesSets_card : Rows.CognatesSetsCardSaid :=
  Claim7.holds_tied_plain_at .later [] [.data] true (true, "74ded2b13ce3947ec1417d0a3395b495d68a45363c58ec8ee3d6fbdb1ee942b2") false
    cognatesSets_holds (fun _ h => by cases h) (by kernel_rfl) (fun _ h => by cases h) cognatesSets_row_tie rfl ⟨rfl, rfl⟩ (by kernel_rfl) rfl
    (fun f fn hf hfn => by
      obtain rfl : f = 10 := Option.some.inj ((show Tryd.prog.funcNamed "ablaut/ablautlaw19.CognatesSets" = some 10 by kernel_rfl).symm.trans hf) |>.symm
      obtain rfl : fn = Tryd.f10 := (Option.some.inj (Tryd.func10.symm.trans hfn)).symm
      exact ⟨by kernel_rfl, fun j t ht => by
        rw [Tryd.params10] at ht
        have hm : t ∈ [30] := by
          have := Array.mem_of_getElem? ht
          simpa using this
        have hall : ([30].all fun u => !Tryd.prog.wantsStandIn u) = true := by kernel_rfl
        exact (show Tryd.prog.wantsStandIn t = false by simpa using List.all_eq_true.1 hall t hm)⟩)
    (by kernel_rfl)
#print axioms cognatesSets_card
end Go.Proofs.YthabfpagilbplaaDoor
