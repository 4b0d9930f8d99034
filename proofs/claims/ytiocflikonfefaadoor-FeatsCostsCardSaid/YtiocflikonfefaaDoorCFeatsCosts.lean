/- FeatsCosts: for every input the law returns true, and its arguments read as before. There is no condition beside the statement's own. -/
import Derived.Test.YtiocflikonfefaaDoorLd
import Derived.Test.YtiocflikonfefaaDoorWb
import Derived.Test.YtiocflikonfefaaDoorTie
import Derived.Test.YtiocflikonfefaaDoorCards
set_option linter.unusedSimpArgs false
set_option linter.unusedVariables false
namespace Go.Proofs.YtiocflikonfefaaDoor
open Go Go.Sy Go.ChangeShapes Go.WideShapes Go.ChangeAt Go.WideElems Go.RowKit Go.Joins Go.Deep
set_option maxRecDepth 100000 in
theorem featsCosts_lifted (os : Os) (started : os.Started) (H : Type) (enc : TypeId × Value → H) :
    ReturnsInHanded {} Tryd.checked os 5 .any (fun w args => (Rows.featsCostsSpec.pre enc Tryd.prog Tryd.f5 [] false w args ∧ laidMetH Tryd.prog laidL w) ∧ sizedMet enc Tryd.prog Tryd.f5 (OpenSpec.ofChange Rows.featsCostsSpec) false w args) (Rows.featsCostsSpec.post enc Tryd.prog Tryd.f5 false true false false) :=
  law_lifted (tb := 4) #[.agg #[.int .u32 0, .int .u32 0], .agg #[.int .u32 0, .int .u32 0], .agg #[.slice none 0 0, .int .i64 0]] (by kernel_rfl) Tryd.func5 rfl (by kernel_rfl) (by kernel_rfl) Tryd.underlying4 (fun H ds h => by
    rw [Tryd.params5] at h
    match ds, h with
    | [_, _, _], _ => rfl) os started H enc (World.shaped_of_RefB (by kernel_rfl) (by kernel_rfl)) (by kernel_rfl) (by kernel_rfl) (by kernel_rfl) fun W base args ds p hT hval hA => by
    rw [Tryd.params5] at hA hval
    obtain ⟨v0, v1, v2, d0, d1, d2, p0, p1, p2, rfl, rfl, rfl, h0, h1, h2⟩ := trodAll_three hA
    obtain ⟨s, rfl, hs⟩ := open_snd _ _ Tryd.underlying24 (by kernel_rfl) (by kernel_rfl) Tryd.underlying22 Tryd.underlying22 (hval 0 24 v0 rfl rfl) h0
    obtain ⟨t, rfl, ht⟩ := open_snd _ _ Tryd.underlying24 (by kernel_rfl) (by kernel_rfl) Tryd.underlying22 Tryd.underlying22 (hval 1 24 v1 rfl rfl) h1
    obtain ⟨cp, cc, cw, cg, rfl, hc⟩ := open_costs _ _ Tryd.underlying40 (by kernel_rfl) (by kernel_rfl) Tryd.underlying38 Tryd.underlying2 (by kernel_rfl) Tryd.underlying2 (hval 2 40 v2 rfl rfl) h2
    exact ⟨_, _, rfl, ⟨hT, hc.1⟩, l_FeatsCosts s t cp cc cw cg hs ht hc.2.1⟩
theorem featsCosts_holds : Rows.FeatsCostsSaid :=
  OpenClaim.holds_of_wide 5 Tryd.f5 rfl rfl rfl rfl rfl rfl rfl ⟨rfl, rfl, rfl, rfl, rfl⟩ rfl rfl rfl rfl rfl (by kernel_rfl) Tryd.func5 (by kernel_rfl)
    (of_decide_eq_true (by kernel_rfl)) (by unfold Func.isWrapper; first | (rw [if_pos (by decide +kernel)]; kernel_rfl) | (rw [if_neg (by decide +kernel)]; exact ⟨rfl, rfl⟩))
    (fun os started H enc _ => featsCosts_lifted os started H enc)
theorem featsCosts_card : Rows.FeatsCostsCardSaid :=
  Claim7.holds_tied_plain_at .later [] [.data] true (true, "3940ddc66dbd6f30dccfecabc2a23e3f0cb923afc55146746b1ff97c13b1d018") false
    featsCosts_holds (fun _ h => by cases h) (by kernel_rfl) (fun _ h => by cases h) featsCosts_row_tie rfl ⟨rfl, rfl⟩ (by kernel_rfl) rfl
    (fun f fn hf hfn => by
      obtain rfl : f = 5 := Option.some.inj ((show Tryd.prog.funcNamed "ablaut/ablautlaw01.FeatsCosts" = some 5 by kernel_rfl).symm.trans hf) |>.symm
      obtain rfl : fn = Tryd.f5 := (Option.some.inj (Tryd.func5.symm.trans hfn)).symm
      exact ⟨by kernel_rfl, fun j t ht => by
        rw [Tryd.params5] at ht
        have hm : t ∈ [24, 40] := by
          have := Array.mem_of_getElem? ht
          simpa using this
        have hall : ([24, 40].all fun u => !Tryd.prog.wantsStandIn u) = true := by kernel_rfl
        exact (show Tryd.prog.wantsStandIn t = false by simpa using List.all_eq_true.1 hall t hm)⟩)
    (by kernel_rfl)
#print axioms featsCosts_card
end Go.Proofs.YtiocflikonfefaaDoor
