/- FeatsChanges: for every input the law returns true, and its arguments read as before. There is no condition beside the statement's own. -/
import Derived.Test.YtiocflikonfefaaDoorLa
import Derived.Test.YtiocflikonfefaaDoorWb
import Derived.Test.YtiocflikonfefaaDoorTie
import Derived.Test.YtiocflikonfefaaDoorCards
set_option linter.unusedSimpArgs false
set_option linter.unusedVariables false
namespace Go.Proofs.YtiocflikonfefaaDoor
open Go Go.Sy Go.ChangeShapes Go.WideShapes Go.ChangeAt Go.WideElems Go.RowKit Go.Joins Go.Deep
set_option maxRecDepth 100000 in
theorem featsChanges_lifted (os : Os) (started : os.Started) (H : Type) (enc : TypeId × Value → H) :
    ReturnsInHanded {} Tryd.checked os 12 .any (fun w args => (Rows.featsChangesSpec.pre enc Tryd.prog Tryd.f12 [] false w args ∧ laidMetH Tryd.prog laidL w) ∧ sizedMet enc Tryd.prog Tryd.f12 (OpenSpec.ofChange Rows.featsChangesSpec) false w args) (Rows.featsChangesSpec.post enc Tryd.prog Tryd.f12 false true false false) :=
  law_lifted (tb := 4) #[.agg #[.int .u32 0, .int .u32 0], .agg #[.int .u32 0, .int .u32 0], .int .u32 0] (by kernel_rfl) Tryd.func12 rfl (by kernel_rfl) (by kernel_rfl) Tryd.underlying4 (fun H ds h => by
    rw [Tryd.params12] at h
    match ds, h with
    | [_, _, _], _ => rfl) os started H enc (World.shaped_of_RefB (by kernel_rfl) (by kernel_rfl)) (by kernel_rfl) (by kernel_rfl) (by kernel_rfl) fun W base args ds p hT hval hA => by
    rw [Tryd.params12] at hA hval
    obtain ⟨v0, v1, v2, d0, d1, d2, p0, p1, p2, rfl, rfl, rfl, h0, h1, h2⟩ := trodAll_three hA
    obtain ⟨s, rfl, hs⟩ := open_snd _ _ Tryd.underlying24 (by kernel_rfl) (by kernel_rfl) Tryd.underlying22 Tryd.underlying22 (hval 0 24 v0 rfl rfl) h0
    obtain ⟨t, rfl, ht⟩ := open_snd _ _ Tryd.underlying24 (by kernel_rfl) (by kernel_rfl) Tryd.underlying22 Tryd.underlying22 (hval 1 24 v1 rfl rfl) h1
    obtain ⟨xi, rfl, rfl, rfl, wx⟩ := open_int Tryd.underlying22 (hval 2 22 v2 rfl rfl) h2
    obtain ⟨x, rfl, hx⟩ := nat_of_wf32 wx
    exact ⟨_, rfl, l_FeatsChanges s t x hs ht hx⟩
theorem featsChanges_holds : Rows.FeatsChangesSaid :=
  OpenClaim.holds_of_wide 12 Tryd.f12 rfl rfl rfl rfl rfl rfl rfl ⟨rfl, rfl, rfl, rfl, rfl⟩ rfl rfl rfl rfl rfl (by kernel_rfl) Tryd.func12 (by kernel_rfl)
    (of_decide_eq_true (by kernel_rfl)) (by unfold Func.isWrapper; first | (rw [if_pos (by decide +kernel)]; kernel_rfl) | (rw [if_neg (by decide +kernel)]; exact ⟨rfl, rfl⟩))
    (fun os started H enc _ => featsChanges_lifted os started H enc)
theorem featsChanges_card : Rows.FeatsChangesCardSaid :=
  Claim7.holds_tied_plain_at .later [] [.data] true (true, "3940ddc66dbd6f30dccfecabc2a23e3f0cb923afc55146746b1ff97c13b1d018") false
    featsChanges_holds (fun _ h => by cases h) (by kernel_rfl) (fun _ h => by cases h) featsChanges_row_tie rfl ⟨rfl, rfl⟩ (by kernel_rfl) rfl
    (fun f fn hf hfn => by
      obtain rfl : f = 12 := Option.some.inj ((show Tryd.prog.funcNamed "ablaut/ablautlaw01.FeatsChanges" = some 12 by kernel_rfl).symm.trans hf) |>.symm
      obtain rfl : fn = Tryd.f12 := (Option.some.inj (Tryd.func12.symm.trans hfn)).symm
      exact ⟨by kernel_rfl, fun j t ht => by
        rw [Tryd.params12] at ht
        have hm : t ∈ [24, 22] := by
          have := Array.mem_of_getElem? ht
          simpa using this
        have hall : ([24, 22].all fun u => !Tryd.prog.wantsStandIn u) = true := by kernel_rfl
        exact (show Tryd.prog.wantsStandIn t = false by simpa using List.all_eq_true.1 hall t hm)⟩)
    (by kernel_rfl)
#print axioms featsChanges_card
end Go.Proofs.YtiocflikonfefaaDoor
