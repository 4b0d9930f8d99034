/- FeatsSets: for every input the law returns true, and its arguments read as before. There is no condition beside the statement's own. -/
import Derived.Test.YtiocflikonfefaaDoorLc
import Derived.Test.YtiocflikonfefaaDoorWb
import Derived.Test.YtiocflikonfefaaDoorTie
import Derived.Test.YtiocflikonfefaaDoorCards
set_option linter.unusedSimpArgs false
set_option linter.unusedVariables false
namespace Go.Proofs.YtiocflikonfefaaDoor
open Go Go.Sy Go.ChangeShapes Go.WideShapes Go.ChangeAt Go.WideElems Go.RowKit Go.Joins Go.Deep
set_option maxRecDepth 100000 in
theorem featsSets_lifted (os : Os) (started : os.Started) (H : Type) (enc : TypeId × Value → H) :
    ReturnsInHanded {} Tryd.checked os 9 .any (fun w args => (Rows.featsSetsSpec.pre enc Tryd.prog Tryd.f9 [] false w args ∧ laidMetH Tryd.prog laidL w) ∧ sizedMet enc Tryd.prog Tryd.f9 (OpenSpec.ofChange Rows.featsSetsSpec) false w args) (Rows.featsSetsSpec.post enc Tryd.prog Tryd.f9 false true false false) :=
  law_lifted (tb := 4) #[.agg #[.int .u32 0, .int .u32 0], .int .u8 0, .int .u8 0] (by kernel_rfl) Tryd.func9 rfl (by kernel_rfl) (by kernel_rfl) Tryd.underlying4 (fun H ds h => by
    rw [Tryd.params9] at h
    match ds, h with
    | [_, _, _], _ => rfl) os started H enc (World.shaped_of_RefB (by kernel_rfl) (by kernel_rfl)) (by kernel_rfl) (by kernel_rfl) (by kernel_rfl) fun W base args ds p hT hval hA => by
    rw [Tryd.params9] at hA hval
    obtain ⟨v0, v1, v2, d0, d1, d2, p0, p1, p2, rfl, rfl, rfl, h0, h1, h2⟩ := trodAll_three hA
    obtain ⟨x, rfl, hx⟩ := open_pair Tryd.underlying45 Tryd.underlying22 (by kernel_rfl) (by kernel_rfl) (hval 0 45 v0 rfl rfl) h0
    obtain ⟨ni, rfl, rfl, rfl, wn⟩ := open_int Tryd.underlying5 (hval 1 5 v1 rfl rfl) h1
    obtain ⟨n, rfl, hn⟩ := nat_of_wf8 wn
    obtain ⟨vi, rfl, rfl, rfl, wv⟩ := open_int Tryd.underlying5 (hval 2 5 v2 rfl rfl) h2
    obtain ⟨v, rfl, hv⟩ := nat_of_wf8 wv
    exact ⟨_, rfl, l_FeatsSets x n v hx hn hv⟩
theorem featsSets_holds : Rows.FeatsSetsSaid :=
  OpenClaim.holds_of_wide 9 Tryd.f9 rfl rfl rfl rfl rfl rfl rfl ⟨rfl, rfl, rfl, rfl, rfl⟩ rfl rfl rfl rfl rfl (by kernel_rfl) Tryd.func9 (by kernel_rfl)
    (of_decide_eq_true (by kernel_rfl)) (by unfold Func.isWrapper; first | (rw [if_pos (by decide +kernel)]; kernel_rfl) | (rw [if_neg (by decide +kernel)]; exact ⟨rfl, rfl⟩))
    (fun os started H enc _ => featsSets_lifted os started H enc)
theorem featsSets_card : Rows.FeatsSetsCardSaid :=
  Claim7.holds_tied_plain_at .later [] [.data] true (true, "3940ddc66dbd6f30dccfecabc2a23e3f0cb923afc55146746b1ff97c13b1d018") false
    featsSets_holds (fun _ h => by cases h) (by kernel_rfl) (fun _ h => by cases h) featsSets_row_tie rfl ⟨rfl, rfl⟩ (by kernel_rfl) rfl
    (fun f fn hf hfn => by
      obtain rfl : f = 9 := Option.some.inj ((show Tryd.prog.funcNamed "ablaut/ablautlaw01.FeatsSets" = some 9 by kernel_rfl).symm.trans hf) |>.symm
      obtain rfl : fn = Tryd.f9 := (Option.some.inj (Tryd.func9.symm.trans hfn)).symm
      exact ⟨by kernel_rfl, fun j t ht => by
        rw [Tryd.params9] at ht
        have hm : t ∈ [45, 5] := by
          have := Array.mem_of_getElem? ht
          simpa using this
        have hall : ([45, 5].all fun u => !Tryd.prog.wantsStandIn u) = true := by kernel_rfl
        exact (show Tryd.prog.wantsStandIn t = false by simpa using List.all_eq_true.1 hall t hm)⟩)
    (by kernel_rfl)
#print axioms featsSets_card
end Go.Proofs.YtiocflikonfefaaDoor
