/- FeatsMetric: for every input the law returns true, and its arguments read as before. There is no condition beside the statement's own. -/
import Derived.Test.YtiocflikonfefaaDoorLe
import Derived.Test.YtiocflikonfefaaDoorWb
import Derived.Test.YtiocflikonfefaaDoorTie
import Derived.Test.YtiocflikonfefaaDoorCards
set_option linter.unusedSimpArgs false
set_option linter.unusedVariables false
namespace Go.Proofs.YtiocflikonfefaaDoor
open Go Go.Sy Go.ChangeShapes Go.WideShapes Go.ChangeAt Go.WideElems Go.RowKit Go.Joins Go.Deep
set_option maxRecDepth 100000 in
theorem featsMetric_lifted (os : Os) (started : os.Started) (H : Type) (enc : TypeId × Value → H) :
    ReturnsInHanded {} Tryd.checked os 8 .any (fun w args => (Rows.featsMetricSpec.pre enc Tryd.prog Tryd.f8 [] false w args ∧ laidMetH Tryd.prog laidL w) ∧ sizedMet enc Tryd.prog Tryd.f8 (OpenSpec.ofChange Rows.featsMetricSpec) false w args) (Rows.featsMetricSpec.post enc Tryd.prog Tryd.f8 false true false false) :=
  law_lifted (tb := 4) #[.agg #[.int .u32 0, .int .u32 0], .agg #[.int .u32 0, .int .u32 0], .agg #[.int .u32 0, .int .u32 0], .slice none 0 0] (by kernel_rfl) Tryd.func8 rfl (by kernel_rfl) (by kernel_rfl) Tryd.underlying4 (fun H ds h => by
    rw [Tryd.params8] at h
    match ds, h with
    | [_, _, _, _], _ => rfl) os started H enc (World.shaped_of_RefB (by kernel_rfl) (by kernel_rfl)) (by kernel_rfl) (by kernel_rfl) (by kernel_rfl) fun W base args ds p hT hval hA => by
    rw [Tryd.params8] at hA hval
    obtain ⟨v0, v1, v2, v3, d0, d1, d2, d3, p0, p1, p2, p3, rfl, rfl, rfl, h0, h1, h2, h3⟩ := trodAll_four hA
    obtain ⟨x, rfl, hx⟩ := open_pair Tryd.underlying45 Tryd.underlying22 (by kernel_rfl) (by kernel_rfl) (hval 0 45 v0 rfl rfl) h0
    obtain ⟨y, rfl, hy⟩ := open_pair Tryd.underlying45 Tryd.underlying22 (by kernel_rfl) (by kernel_rfl) (hval 1 45 v1 rfl rfl) h1
    obtain ⟨z, rfl, hz⟩ := open_pair Tryd.underlying45 Tryd.underlying22 (by kernel_rfl) (by kernel_rfl) (hval 2 45 v2 rfl rfl) h2
    obtain ⟨wp, wc, ww, rfl, hw⟩ := open_u16s Tryd.underlying48 Tryd.underlying49 (by kernel_rfl) (hval 3 48 v3 rfl rfl) h3
    exact ⟨_, _, rfl, ⟨hT, hw.1⟩, l_FeatsMetric x y z wp wc ww hx hy hz hw.2.1 hw.2.2⟩
theorem featsMetric_holds : Rows.FeatsMetricSaid :=
  OpenClaim.holds_of_wide 8 Tryd.f8 rfl rfl rfl rfl rfl rfl rfl ⟨rfl, rfl, rfl, rfl, rfl⟩ rfl rfl rfl rfl rfl (by kernel_rfl) Tryd.func8 (by kernel_rfl)
    (of_decide_eq_true (by kernel_rfl)) (by unfold Func.isWrapper; first | (rw [if_pos (by decide +kernel)]; kernel_rfl) | (rw [if_neg (by decide +kernel)]; exact ⟨rfl, rfl⟩))
    (fun os started H enc _ => featsMetric_lifted os started H enc)
theorem featsMetric_card : Rows.FeatsMetricCardSaid :=
  Claim7.holds_tied_plain_at .later [] [.data] true (true, "3940ddc66dbd6f30dccfecabc2a23e3f0cb923afc55146746b1ff97c13b1d018") false
    featsMetric_holds (fun _ h => by cases h) (by kernel_rfl) (fun _ h => by cases h) featsMetric_row_tie rfl ⟨rfl, rfl⟩ (by kernel_rfl) rfl
    (fun f fn hf hfn => by
      obtain rfl : f = 8 := Option.some.inj ((show Tryd.prog.funcNamed "ablaut/ablautlaw01.FeatsMetric" = some 8 by kernel_rfl).symm.trans hf) |>.symm
      obtain rfl : fn = Tryd.f8 := (Option.some.inj (Tryd.func8.symm.trans hfn)).symm
      exact ⟨by kernel_rfl, fun j t ht => by
        rw [Tryd.params8] at ht
        have hm : t ∈ [45, 48] := by
          have := Array.mem_of_getElem? ht
          simpa using this
        have hall : ([45, 48].all fun u => !Tryd.prog.wantsStandIn u) = true := by kernel_rfl
        exact (show Tryd.prog.wantsStandIn t = false by simpa using List.all_eq_true.1 hall t hm)⟩)
    (by kernel_rfl)
#print axioms featsMetric_card
end Go.Proofs.YtiocflikonfefaaDoor
