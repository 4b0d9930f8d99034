/- CognatesClasses: for every input the law returns true, and its arguments read as before. There is no condition beside the statement's own. -/
import Derived.Test.YthabfpagilbplaaDoorRm
import Derived.Test.YthabfpagilbplaaDoorWl
import Derived.Test.YthabfpagilbplaaDoorWd
import Derived.Test.YthabfpagilbplaaDoorTie
import Derived.Test.YthabfpagilbplaaDoorCards
set_option linter.unusedSimpArgs false
set_option linter.unusedVariables false
namespace Go.Proofs.YthabfpagilbplaaDoor
open Go Go.Sy Go.ChangeShapes Go.WideShapes Go.ChangeAt Go.WideElems Go.RowKit Go.Joins Go.Deep
set_option maxRecDepth 100000 in
theorem cognatesClasses_lifted (os : Os) (started : os.Started) (H : Type) (enc : TypeId × Value → H) :
    ReturnsInHanded {} Tryd.checked os 11 .any (fun w args => (Rows.cognatesClassesSpec.pre enc Tryd.prog Tryd.f11 [] false w args ∧ laidMetH Tryd.prog laidL w) ∧ sizedMet enc Tryd.prog Tryd.f11 (OpenSpec.ofChange Rows.cognatesClassesSpec) false w args) (Rows.cognatesClassesSpec.post enc Tryd.prog Tryd.f11 false true false false) :=
  law_lifted (tb := 4) #[.slice none 0 0] (by kernel_rfl) Tryd.func11 rfl (by kernel_rfl) (by kernel_rfl) Tryd.underlying4 (fun H ds h => by
    rw [Tryd.params11] at h
    match ds, h with
    | [_], _ => rfl) os started H enc (World.shaped_of_RefB (by kernel_rfl) (by kernel_rfl)) (by kernel_rfl) (by kernel_rfl) (by kernel_rfl) fun W base args ds p hT hval hA => by
    rw [Tryd.params11] at hA hval
    obtain ⟨v0, d0, rfl, rfl, h0⟩ := trodAll_one hA
    obtain ⟨a, rfl, ha⟩ := arg_slN Tryd.underlying74 (show Tryd.prog.cellsOf 47 = 1 by kernel_rfl) (reads_int (k := .u16) Tryd.underlying47) (hval 0 74 v0 rfl rfl) h0
    have hcall := l_CognatesClasses a.p a.cap a.l ha.2.1.2 (fun x hx => wf16 (ha.2.2.2 x hx))
    exact ⟨_, _, rfl, ⟨cells_map1 ha.1, hT⟩, hcall⟩
theorem cognatesClasses_holds : Rows.CognatesClassesSaid :=
  OpenClaim.holds_of_wide 11 Tryd.f11 rfl rfl rfl rfl rfl rfl rfl ⟨rfl, rfl, rfl, rfl, rfl⟩ rfl rfl rfl rfl rfl (by kernel_rfl) Tryd.func11 (by kernel_rfl)
    (of_decide_eq_true (by kernel_rfl)) (by unfold Func.isWrapper; first | (rw [if_pos (by decide +kernel)]; kernel_rfl) | (rw [if_neg (by decide +kernel)]; exact ⟨rfl, rfl⟩))
    (fun os started H enc _ => cognatesClasses_lifted os started H enc)
theorem cognatesClasses_card : Rows.CognatesClassesCardSaid :=
  Claim7.holds_tied_plain_at .later [] [.data] true (true, "74ded2b13ce3947ec1417d0a3395b495d68a45363c58ec8ee3d6fbdb1ee942b2") false
    cognatesClasses_holds (fun _ h => by cases h) (by kernel_rfl) (fun _ h => by cases h) cognatesClasses_row_tie rfl ⟨rfl, rfl⟩ (by kernel_rfl) rfl
    (fun f fn hf hfn => by
      obtain rfl : f = 11 := Option.some.inj ((show Tryd.prog.funcNamed "ablaut/ablautlaw19.CognatesClasses" = some 11 by kernel_rfl).symm.trans hf) |>.symm
      obtain rfl : fn = Tryd.f11 := (Option.some.inj (Tryd.func11.symm.trans hfn)).symm
      exact ⟨by kernel_rfl, fun j t ht => by
        rw [Tryd.params11] at ht
        have hm : t ∈ [74] := by
          have := Array.mem_of_getElem? ht
          simpa using this
        have hall : ([74].all fun u => !Tryd.prog.wantsStandIn u) = true := by kernel_rfl
        exact (show Tryd.prog.wantsStandIn t = false by simpa using List.all_eq_true.1 hall t hm)⟩)
    (by kernel_rfl)
#print axioms cognatesClasses_card
end Go.Proofs.YthabfpagilbplaaDoor
