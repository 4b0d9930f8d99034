/- EditAligns: for every input the law returns true, and its arguments read as before. There is no condition beside the statement's own. -/
import Derived.Test.YtedfogpnmpmggaaDoorHq
import Derived.Test.YtedfogpnmpmggaaDoorWd
import Derived.Test.YtedfogpnmpmggaaDoorTie
import Derived.Test.YtedfogpnmpmggaaDoorCards
set_option linter.unusedSimpArgs false
set_option linter.unusedVariables false
namespace Go.Proofs.YtedfogpnmpmggaaDoor
open Go Go.Sy Go.ChangeShapes Go.WideShapes Go.ChangeAt Go.WideElems Go.RowKit Go.Joins Go.Deep
set_option maxRecDepth 100000 in
theorem editAligns_lifted (os : Os) (started : os.Started) (H : Type) (enc : TypeId × Value → H) :
    ReturnsInHanded {} Tryd.checked os 3 .any (fun w args => (Rows.editAlignsSpec.pre enc Tryd.prog Tryd.f3 [] false w args ∧ laidMetH Tryd.prog laidL w) ∧ sizedMet enc Tryd.prog Tryd.f3 (OpenSpec.ofChange Rows.editAlignsSpec) false w args) (Rows.editAlignsSpec.post enc Tryd.prog Tryd.f3 false true false false) :=
  law_lifted (tb := 4) #[.agg #[.slice none 0 0, .slice none 0 0, .slice none 0 0, .int .i64 0]] (by kernel_rfl) Tryd.func3 rfl (by kernel_rfl) (by kernel_rfl) Tryd.underlying4 (fun H ds h => by
    rw [Tryd.params3] at h
    match ds, h with
    | [_], _ => rfl) os started H enc (World.shaped_of_RefB (by kernel_rfl) (by kernel_rfl)) (by kernel_rfl) (by kernel_rfl) (by kernel_rfl) fun W base args ds p hT hval hA => by
    rw [Tryd.params3] at hA hval
    obtain ⟨v0, d0, rfl, rfl, h0⟩ := trodAll_one hA
    obtain ⟨tA, tB, tc, rfl, htA, htB, htc⟩ := open_two Tryd.underlying27 (by kernel_rfl) (by kernel_rfl) (by kernel_rfl) (by kernel_rfl) (by kernel_rfl) (by kernel_rfl) (by kernel_rfl) (reads_slN Tryd.underlying22 (show Tryd.prog.cellsOf 56 = 2 by kernel_rfl) (reads_snd Tryd.underlying56 (by kernel_rfl) (by kernel_rfl) (by kernel_rfl) (by kernel_rfl) (by kernel_rfl) Tryd.underlying54 Tryd.underlying54)) (reads_slN Tryd.underlying22 (show Tryd.prog.cellsOf 56 = 2 by kernel_rfl) (reads_snd Tryd.underlying56 (by kernel_rfl) (by kernel_rfl) (by kernel_rfl) (by kernel_rfl) (by kernel_rfl) Tryd.underlying54 Tryd.underlying54)) (reads_costs Tryd.underlying25 (by kernel_rfl) (by kernel_rfl) (by kernel_rfl) (by kernel_rfl) (by kernel_rfl) Tryd.underlying23 Tryd.underlying2 (by kernel_rfl) Tryd.underlying2) (hval 0 27 v0 rfl rfl) h0
    exact ⟨_, _, rfl, ⟨⟨htA.1, htB.1, htc.1⟩, hT⟩, l_EditAligns ⟨tA.p, tA.cap, tA.l⟩ ⟨tB.p, tB.cap, tB.l⟩ tc.p tc.cap tc.l tc.gap htA.2.2.2 htB.2.2.2 htA.2.1.1 htB.2.1.1⟩
theorem editAligns_holds : Rows.EditAlignsSaid :=
  OpenClaim.holds_of_wide 3 Tryd.f3 rfl rfl rfl rfl rfl rfl rfl ⟨rfl, rfl, rfl, rfl, rfl⟩ rfl rfl rfl rfl rfl (by kernel_rfl) Tryd.func3 (by kernel_rfl)
    (of_decide_eq_true (by kernel_rfl)) (by unfold Func.isWrapper; first | (rw [if_pos (by decide +kernel)]; kernel_rfl) | (rw [if_neg (by decide +kernel)]; exact ⟨rfl, rfl⟩))
    (fun os started H enc _ => editAligns_lifted os started H enc)
theorem editAligns_card : Rows.EditAlignsCardSaid :=
  Claim7.holds_tied_plain_at .later [] [.data] true (true, "afe5bbe106398cd9cd67dd048aec4c741dfcb00040ef3a1f6b32584d5db75a0e") false
    editAligns_holds (fun _ h => by cases h) (by kernel_rfl) (fun _ h => by cases h) editAligns_row_tie rfl ⟨rfl, rfl⟩ (by kernel_rfl) rfl
    (fun f fn hf hfn => by
      obtain rfl : f = 3 := Option.some.inj ((show Tryd.prog.funcNamed "ablaut/ablautlaw17.EditAligns" = some 3 by kernel_rfl).symm.trans hf) |>.symm
      obtain rfl : fn = Tryd.f3 := (Option.some.inj (Tryd.func3.symm.trans hfn)).symm
      exact ⟨by kernel_rfl, fun j t ht => by
        rw [Tryd.params3] at ht
        have hm : t ∈ [27] := by
          have := Array.mem_of_getElem? ht
          simpa using this
        have hall : ([27].all fun u => !Tryd.prog.wantsStandIn u) = true := by kernel_rfl
        exact (show Tryd.prog.wantsStandIn t = false by simpa using List.all_eq_true.1 hall t hm)⟩)
    (by kernel_rfl)
#print axioms editAligns_card
end Go.Proofs.YtedfogpnmpmggaaDoor
