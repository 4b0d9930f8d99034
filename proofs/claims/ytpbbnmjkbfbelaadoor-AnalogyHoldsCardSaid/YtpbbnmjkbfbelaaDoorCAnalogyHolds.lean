/- AnalogyHolds: for every input the law returns true, and its arguments read as before. There is no condition beside the statement's own. -/
import Derived.Test.YtpbbnmjkbfbelaaDoorYa
import Derived.Test.YtpbbnmjkbfbelaaDoorWd
import Derived.Test.YtpbbnmjkbfbelaaDoorTie
import Derived.Test.YtpbbnmjkbfbelaaDoorCards
set_option linter.unusedSimpArgs false
set_option linter.unusedVariables false
namespace Go.Proofs.YtpbbnmjkbfbelaaDoor
open Go Go.Sy Go.ChangeShapes Go.WideShapes Go.ChangeAt Go.WideElems Go.RowKit Go.Joins Go.Deep
set_option maxRecDepth 100000 in
theorem analogyHolds_lifted (os : Os) (started : os.Started) (H : Type) (enc : TypeId × Value → H) :
    ReturnsInHanded {} Tryd.checked os 8 .any (fun w args => (Rows.analogyHoldsSpec.pre enc Tryd.prog Tryd.f8 [] false w args ∧ laidMetH Tryd.prog laidL w) ∧ sizedMet enc Tryd.prog Tryd.f8 (OpenSpec.ofChange Rows.analogyHoldsSpec) false w args) (Rows.analogyHoldsSpec.post enc Tryd.prog Tryd.f8 false true false false) :=
  law_lifted (tb := 4) #[.agg #[.slice none 0 0, .slice none 0 0, .slice none 0 0, .slice none 0 0]] (by kernel_rfl) Tryd.func8 rfl (by kernel_rfl) (by kernel_rfl) Tryd.underlying4 (fun H ds h => by
    rw [Tryd.params8] at h
    match ds, h with
    | [_], _ => rfl) os started H enc (World.shaped_of_RefB (by kernel_rfl) (by kernel_rfl)) (by kernel_rfl) (by kernel_rfl) (by kernel_rfl) fun W base args ds p hT hval hA => by
    rw [Tryd.params8] at hA hval
    obtain ⟨v0, d0, rfl, rfl, h0⟩ := trodAll_one hA
    obtain ⟨tA, tB, tC, tD, rfl, htA, htB, htC, htD⟩ := open_four Tryd.underlying57 (by kernel_rfl) (by kernel_rfl) (by kernel_rfl) (by kernel_rfl) (by kernel_rfl) (by kernel_rfl) (by kernel_rfl) (by kernel_rfl) (by kernel_rfl) (reads_slN Tryd.underlying22 (show Tryd.prog.cellsOf 31 = 2 by kernel_rfl) (reads_snd Tryd.underlying31 (by kernel_rfl) (by kernel_rfl) (by kernel_rfl) (by kernel_rfl) (by kernel_rfl) Tryd.underlying29 Tryd.underlying29)) (reads_slN Tryd.underlying22 (show Tryd.prog.cellsOf 31 = 2 by kernel_rfl) (reads_snd Tryd.underlying31 (by kernel_rfl) (by kernel_rfl) (by kernel_rfl) (by kernel_rfl) (by kernel_rfl) Tryd.underlying29 Tryd.underlying29)) (reads_slN Tryd.underlying22 (show Tryd.prog.cellsOf 31 = 2 by kernel_rfl) (reads_snd Tryd.underlying31 (by kernel_rfl) (by kernel_rfl) (by kernel_rfl) (by kernel_rfl) (by kernel_rfl) Tryd.underlying29 Tryd.underlying29)) (reads_slN Tryd.underlying22 (show Tryd.prog.cellsOf 31 = 2 by kernel_rfl) (reads_snd Tryd.underlying31 (by kernel_rfl) (by kernel_rfl) (by kernel_rfl) (by kernel_rfl) (by kernel_rfl) Tryd.underlying29 Tryd.underlying29)) (hval 0 57 v0 rfl rfl) h0
    exact ⟨_, _, rfl, ⟨htA.1, htB.1, htC.1, htD.1, hT⟩, l_AnalogyHolds ⟨tA.p, tA.cap, tA.l⟩ ⟨tB.p, tB.cap, tB.l⟩ ⟨tC.p, tC.cap, tC.l⟩ ⟨tD.p, tD.cap, tD.l⟩ htA.2.2.2 htB.2.2.2 htC.2.2.2 htD.2.2.2 ⟨htA.2.1.2, htA.2.1.1⟩ ⟨htB.2.1.2, htB.2.1.1⟩ ⟨htC.2.1.2, htC.2.1.1⟩⟩
theorem analogyHolds_holds : Rows.AnalogyHoldsSaid :=
  OpenClaim.holds_of_wide 8 Tryd.f8 rfl rfl rfl rfl rfl rfl rfl ⟨rfl, rfl, rfl, rfl, rfl⟩ rfl rfl rfl rfl rfl (by kernel_rfl) Tryd.func8 (by kernel_rfl)
    (of_decide_eq_true (by kernel_rfl)) (by unfold Func.isWrapper; first | (rw [if_pos (by decide +kernel)]; kernel_rfl) | (rw [if_neg (by decide +kernel)]; exact ⟨rfl, rfl⟩))
    (fun os started H enc _ => analogyHolds_lifted os started H enc)
theorem analogyHolds_card : Rows.AnalogyHoldsCardSaid :=
  Claim7.holds_tied_plain_at .later [] [.funcs, .funcs] true (true, "0e8efc18f4f016596635a4ebdede4c84d43fbe35cbf0d14a1e28b45916986308") false
    analogyHolds_holds (fun _ h => by cases h) (by kernel_rfl) (fun _ h => by cases h) analogyHolds_row_tie rfl ⟨rfl, rfl⟩ (by kernel_rfl) rfl
    (fun f fn hf hfn => by
      obtain rfl : f = 8 := Option.some.inj ((show Tryd.prog.funcNamed "ablaut/ablautlaw30.AnalogyHolds" = some 8 by kernel_rfl).symm.trans hf) |>.symm
      obtain rfl : fn = Tryd.f8 := (Option.some.inj (Tryd.func8.symm.trans hfn)).symm
      exact ⟨by kernel_rfl, fun j t ht => by
        rw [Tryd.params8] at ht
        have hm : t ∈ [57] := by
          have := Array.mem_of_getElem? ht
          simpa using this
        have hall : ([57].all fun u => !Tryd.prog.wantsStandIn u) = true := by kernel_rfl
        exact (show Tryd.prog.wantsStandIn t = false by simpa using List.all_eq_true.1 hall t hm)⟩)
    (by kernel_rfl)
#print axioms analogyHolds_card
end Go.Proofs.YtpbbnmjkbfbelaaDoor
