/- AnalogySolves: for every input the law returns true, and its arguments read as before. There is no condition beside the statement's own. -/
import Derived.Test.YtpbbnmjkbfbelaaDoorYf
import Derived.Test.YtpbbnmjkbfbelaaDoorWd
import Derived.Test.YtpbbnmjkbfbelaaDoorTie
import Derived.Test.YtpbbnmjkbfbelaaDoorCards
set_option linter.unusedSimpArgs false
set_option linter.unusedVariables false
namespace Go.Proofs.YtpbbnmjkbfbelaaDoor
open Go Go.Sy Go.ChangeShapes Go.WideShapes Go.ChangeAt Go.WideElems Go.RowKit Go.Joins Go.Deep
set_option maxRecDepth 100000 in
theorem analogySolves_lifted (os : Os) (started : os.Started) (H : Type) (enc : TypeId × Value → H) :
    ReturnsInHanded {} Tryd.checked os 3 .any (fun w args => (Rows.analogySolvesSpec.pre enc Tryd.prog Tryd.f3 [] false w args ∧ laidMetH Tryd.prog laidL w) ∧ sizedMet enc Tryd.prog Tryd.f3 (OpenSpec.ofChange Rows.analogySolvesSpec) false w args) (Rows.analogySolvesSpec.post enc Tryd.prog Tryd.f3 false true false false) :=
  law_lifted (tb := 4) #[.slice none 0 0, .slice none 0 0, .slice none 0 0] (by kernel_rfl) Tryd.func3 rfl (by kernel_rfl) (by kernel_rfl) Tryd.underlying4 (fun H ds h => by
    rw [Tryd.params3] at h
    match ds, h with
    | [_, _, _], _ => rfl) os started H enc (World.shaped_of_RefB (by kernel_rfl) (by kernel_rfl)) (by kernel_rfl) (by kernel_rfl) (by kernel_rfl) fun W base args ds p hT hval hA => by
    rw [Tryd.params3] at hA hval
    obtain ⟨v0, v1, v2, d0, d1, d2, p0, p1, p2, rfl, rfl, rfl, h0, h1, h2⟩ := trodAll_three hA
    obtain ⟨x, rfl, hx⟩ := arg_slN Tryd.underlying22 (show Tryd.prog.cellsOf 31 = 2 by kernel_rfl) (reads_snd Tryd.underlying31 (by kernel_rfl) (by kernel_rfl) (by kernel_rfl) (by kernel_rfl) (by kernel_rfl) Tryd.underlying29 Tryd.underlying29) (hval 0 22 v0 rfl rfl) h0
    obtain ⟨y, rfl, hy⟩ := arg_slN Tryd.underlying22 (show Tryd.prog.cellsOf 31 = 2 by kernel_rfl) (reads_snd Tryd.underlying31 (by kernel_rfl) (by kernel_rfl) (by kernel_rfl) (by kernel_rfl) (by kernel_rfl) Tryd.underlying29 Tryd.underlying29) (hval 1 22 v1 rfl rfl) h1
    obtain ⟨z, rfl, hz⟩ := arg_slN Tryd.underlying22 (show Tryd.prog.cellsOf 31 = 2 by kernel_rfl) (reads_snd Tryd.underlying31 (by kernel_rfl) (by kernel_rfl) (by kernel_rfl) (by kernel_rfl) (by kernel_rfl) Tryd.underlying29 Tryd.underlying29) (hval 2 22 v2 rfl rfl) h2
    have hcall := l_AnalogySolves ⟨x.p, x.cap, x.l⟩ ⟨y.p, y.cap, y.l⟩ ⟨z.p, z.cap, z.l⟩ hx.2.2.2 hy.2.2.2 hz.2.2.2 ⟨hx.2.1.2, hx.2.1.1⟩ ⟨hy.2.1.2, hy.2.1.1⟩ ⟨hz.2.1.2, hz.2.1.1⟩
    exact ⟨_, _, rfl, ⟨hx.1, hy.1, hz.1, hT⟩, hcall⟩
theorem analogySolves_holds : Rows.AnalogySolvesSaid :=
  OpenClaim.holds_of_wide 3 Tryd.f3 rfl rfl rfl rfl rfl rfl rfl ⟨rfl, rfl, rfl, rfl, rfl⟩ rfl rfl rfl rfl rfl (by kernel_rfl) Tryd.func3 (by kernel_rfl)
    (of_decide_eq_true (by kernel_rfl)) (by unfold Func.isWrapper; first | (rw [if_pos (by decide +kernel)]; kernel_rfl) | (rw [if_neg (by decide +kernel)]; exact ⟨rfl, rfl⟩))
    (fun os started H enc _ => analogySolves_lifted os started H enc)
theorem analogySolves_card : Rows.AnalogySolvesCardSaid :=
  Claim7.holds_tied_plain_at .later [] [.funcs, .funcs] true (true, "0e8efc18f4f016596635a4ebdede4c84d43fbe35cbf0d14a1e28b45916986308") false
    analogySolves_holds (fun _ h => by cases h) (by kernel_rfl) (fun _ h => by cases h) analogySolves_row_tie rfl ⟨rfl, rfl⟩ (by kernel_rfl) rfl
    (fun f fn hf hfn => by
      obtain rfl : f = 3 := Option.some.inj ((show Tryd.prog.funcNamed "ablaut/ablautlaw30.AnalogySolves" = some 3 by kernel_rfl).symm.trans hf) |>.symm
      obtain rfl : fn = Tryd.f3 := (Option.some.inj (Tryd.func3.symm.trans hfn)).symm
      exact ⟨by kernel_rfl, fun j t ht => by
        rw [Tryd.params3] at ht
        have hm : t ∈ [22] := by
          have := Array.mem_of_getElem? ht
          simpa using this
        have hall : ([22].all fun u => !Tryd.prog.wantsStandIn u) = true := by kernel_rfl
        exact (show Tryd.prog.wantsStandIn t = false by simpa using List.all_eq_true.1 hall t hm)⟩)
    (by kernel_rfl)
#print axioms analogySolves_card
end Go.Proofs.YtpbbnmjkbfbelaaDoor
