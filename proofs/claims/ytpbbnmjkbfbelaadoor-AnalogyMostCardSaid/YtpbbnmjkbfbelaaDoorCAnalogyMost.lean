/- AnalogyMost: for every input the law returns true, and its arguments read as before. There is no condition beside the statement's own. -/
import Derived.Test.YtpbbnmjkbfbelaaDoorYe
import Derived.Test.YtpbbnmjkbfbelaaDoorWd
import Derived.Test.YtpbbnmjkbfbelaaDoorTie
import Derived.Test.YtpbbnmjkbfbelaaDoorCards
set_option linter.unusedSimpArgs false
set_option linter.unusedVariables false
namespace Go.Proofs.YtpbbnmjkbfbelaaDoor
open Go Go.Sy Go.ChangeShapes Go.WideShapes Go.ChangeAt Go.WideElems Go.RowKit Go.Joins Go.Deep
set_option maxRecDepth 100000 in
theorem analogyMost_lifted (os : Os) (started : os.Started) (H : Type) (enc : TypeId × Value → H) :
    ReturnsInHanded {} Tryd.checked os 11 .any (fun w args => (Rows.analogyMostSpec.pre enc Tryd.prog Tryd.f11 [] false w args ∧ laidMetH Tryd.prog laidL w) ∧ sizedMet enc Tryd.prog Tryd.f11 (OpenSpec.ofChange Rows.analogyMostSpec) false w args) (Rows.analogyMostSpec.post enc Tryd.prog Tryd.f11 false true false false) :=
  law_lifted (tb := 4) #[.slice none 0 0, .slice none 0 0] (by kernel_rfl) Tryd.func11 rfl (by kernel_rfl) (by kernel_rfl) Tryd.underlying4 (fun H ds h => by
    rw [Tryd.params11] at h
    match ds, h with
    | [_, _], _ => rfl) os started H enc (World.shaped_of_RefB (by kernel_rfl) (by kernel_rfl)) (by kernel_rfl) (by kernel_rfl) (by kernel_rfl) fun W base args ds p hT hval hA => by
    rw [Tryd.params11] at hA hval
    obtain ⟨v0, v1, d0, d1, p0, p1, rfl, rfl, rfl, h0, h1⟩ := trodAll_two hA
    obtain ⟨s, rfl, hs⟩ := arg_slN Tryd.underlying33 (show Tryd.prog.cellsOf 69 = 2 by kernel_rfl) (reads_two Tryd.underlying69 (by kernel_rfl) (by kernel_rfl) (by kernel_rfl) (by kernel_rfl) (by kernel_rfl) (reads_slN Tryd.underlying22 (show Tryd.prog.cellsOf 31 = 2 by kernel_rfl) (reads_snd Tryd.underlying31 (by kernel_rfl) (by kernel_rfl) (by kernel_rfl) (by kernel_rfl) (by kernel_rfl) Tryd.underlying29 Tryd.underlying29)) (reads_slN Tryd.underlying22 (show Tryd.prog.cellsOf 31 = 2 by kernel_rfl) (reads_snd Tryd.underlying31 (by kernel_rfl) (by kernel_rfl) (by kernel_rfl) (by kernel_rfl) (by kernel_rfl) Tryd.underlying29 Tryd.underlying29))) (hval 0 33 v0 rfl rfl) h0
    obtain ⟨x, rfl, hx⟩ := arg_slN Tryd.underlying22 (show Tryd.prog.cellsOf 31 = 2 by kernel_rfl) (reads_snd Tryd.underlying31 (by kernel_rfl) (by kernel_rfl) (by kernel_rfl) (by kernel_rfl) (by kernel_rfl) Tryd.underlying29 Tryd.underlying29) (hval 1 22 v1 rfl rfl) h1
    have hcall := l_AnalogyMost s.p s.cap (s.l.map mdOf) ⟨x.p, x.cap, x.l⟩ (models_ok hs) hx.2.2.2 ⟨hx.2.1.2, hx.2.1.1⟩ (models_len hs)
    rw [List.length_map] at hcall
    exact ⟨_, _, rfl, ⟨models_at hs, hx.1, hT⟩, hcall⟩
theorem analogyMost_holds : Rows.AnalogyMostSaid :=
  OpenClaim.holds_of_wide 11 Tryd.f11 rfl rfl rfl rfl rfl rfl rfl ⟨rfl, rfl, rfl, rfl, rfl⟩ rfl rfl rfl rfl rfl (by kernel_rfl) Tryd.func11 (by kernel_rfl)
    (of_decide_eq_true (by kernel_rfl)) (by unfold Func.isWrapper; first | (rw [if_pos (by decide +kernel)]; kernel_rfl) | (rw [if_neg (by decide +kernel)]; exact ⟨rfl, rfl⟩))
    (fun os started H enc _ => analogyMost_lifted os started H enc)
theorem analogyMost_card : Rows.AnalogyMostCardSaid :=
  Claim7.holds_tied_plain_at .later [] [.funcs, .funcs] true (true, "0e8efc18f4f016596635a4ebdede4c84d43fbe35cbf0d14a1e28b45916986308") false
    analogyMost_holds (fun _ h => by cases h) (by kernel_rfl) (fun _ h => by cases h) analogyMost_row_tie rfl ⟨rfl, rfl⟩ (by kernel_rfl) rfl
    (fun f fn hf hfn => by
      obtain rfl : f = 11 := Option.some.inj ((show Tryd.prog.funcNamed "ablaut/ablautlaw30.AnalogyMost" = some 11 by kernel_rfl).symm.trans hf) |>.symm
      obtain rfl : fn = Tryd.f11 := (Option.some.inj (Tryd.func11.symm.trans hfn)).symm
      exact ⟨by kernel_rfl, fun j t ht => by
        rw [Tryd.params11] at ht
        have hm : t ∈ [33, 22] := by
          have := Array.mem_of_getElem? ht
          simpa using this
        have hall : ([33, 22].all fun u => !Tryd.prog.wantsStandIn u) = true := by kernel_rfl
        exact (show Tryd.prog.wantsStandIn t = false by simpa using List.all_eq_true.1 hall t hm)⟩)
    (by kernel_rfl)
#print axioms analogyMost_card
end Go.Proofs.YtpbbnmjkbfbelaaDoor
