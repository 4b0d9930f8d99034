/- AnalogyLevel: for every input the law returns true, and its arguments read as before. There is no condition beside the statement's own. -/
import Derived.Test.YtpbbnmjkbfbelaaDoorYt
import Derived.Test.YtpbbnmjkbfbelaaDoorWq
import Derived.Test.YtpbbnmjkbfbelaaDoorWe
import Derived.Test.YtpbbnmjkbfbelaaDoorTie
import Derived.Test.YtpbbnmjkbfbelaaDoorCards
set_option linter.unusedSimpArgs false
set_option linter.unusedVariables false
namespace Go.Proofs.YtpbbnmjkbfbelaaDoor
open Go Go.Sy Go.ChangeShapes Go.WideShapes Go.ChangeAt Go.WideElems Go.RowKit Go.Joins Go.Deep
set_option maxRecDepth 100000 in
theorem analogyLevel_lifted (os : Os) (started : os.Started) (H : Type) (enc : TypeId × Value → H) :
    ReturnsInHanded {} Tryd.checked os 7 .any (fun w args => (Rows.analogyLevelSpec.pre enc Tryd.prog Tryd.f7 [] false w args ∧ laidMetH Tryd.prog laidL w) ∧ sizedMet enc Tryd.prog Tryd.f7 (OpenSpec.ofChange Rows.analogyLevelSpec) false w args) (Rows.analogyLevelSpec.post enc Tryd.prog Tryd.f7 false true false false) :=
  law_liftedW (tb := 4) #[.slice none 0 0, .int .u8 0, .int .u8 0] (by kernel_rfl) Tryd.func7 rfl (by kernel_rfl) (by kernel_rfl) Tryd.underlying4 (fun H ds h => by
    rw [Tryd.params7] at h
    match ds, h with
    | [_, _, _], _ => rfl) os started H enc (World.shaped_of_RefB (by kernel_rfl) (by kernel_rfl)) (by kernel_rfl) (by kernel_rfl) (by kernel_rfl) fun W base args ds p hT hval hA hsz => by
    rw [Tryd.params7] at hA hval hsz
    obtain ⟨v0, v1, v2, d0, d1, d2, p0, p1, p2, rfl, rfl, rfl, h0, h1, h2⟩ := trodAll_three hA
    obtain ⟨s, rfl, hs⟩ := arg_slN Tryd.underlying52 (show Tryd.prog.cellsOf 53 = 8 by kernel_rfl) (reads_quad Tryd.underlying53 (by kernel_rfl) (by kernel_rfl) (reads_form Tryd.underlying41 (by kernel_rfl) (by kernel_rfl) (by kernel_rfl) (by kernel_rfl) (by kernel_rfl) Tryd.underlying4 (reads_slN Tryd.underlying22 (show Tryd.prog.cellsOf 31 = 2 by kernel_rfl) (reads_snd Tryd.underlying31 (by kernel_rfl) (by kernel_rfl) (by kernel_rfl) (by kernel_rfl) (by kernel_rfl) Tryd.underlying29 Tryd.underlying29)))) (hval 0 52 v0 rfl rfl) h0
    obtain ⟨a, rfl, rfl, rfl, wa⟩ := open_int Tryd.underlying5 (hval 1 5 v1 rfl rfl) h1
    obtain ⟨b, rfl, rfl, rfl, wb⟩ := open_int Tryd.underlying5 (hval 2 5 v2 rfl rfl) h2
    have hcall := l_AnalogyLevel s.p s.cap (s.l.map quadOf) a b (quad_4 hs) (quad_ok hs) (quad_len hs) (u8_range wa) (u8_range wb)
    rw [List.length_map] at hcall
    exact ⟨_, _, rfl, ⟨quad_at hs, hT⟩, hcall⟩
theorem analogyLevel_holds : Rows.AnalogyLevelSaid :=
  OpenClaim.holds_of_wide 7 Tryd.f7 rfl rfl rfl rfl rfl rfl rfl ⟨rfl, rfl, rfl, rfl, rfl⟩ rfl rfl rfl rfl rfl (by kernel_rfl) Tryd.func7 (by kernel_rfl)
    (of_decide_eq_true (by kernel_rfl)) (by unfold Func.isWrapper; first | (rw [if_pos (by decide +kernel)]; kernel_rfl) | (rw [if_neg (by decide +kernel)]; exact ⟨rfl, rfl⟩))
    (fun os started H enc _ => analogyLevel_lifted os started H enc)
theorem analogyLevel_card : Rows.AnalogyLevelCardSaid :=
  Claim7.holds_tied_plain_at .later [] [.funcs, .funcs] true (true, "0e8efc18f4f016596635a4ebdede4c84d43fbe35cbf0d14a1e28b45916986308") false
    analogyLevel_holds (fun _ h => by cases h) (by kernel_rfl) (fun _ h => by cases h) analogyLevel_row_tie rfl ⟨rfl, rfl⟩ (by kernel_rfl) rfl
    (fun f fn hf hfn => by
      obtain rfl : f = 7 := Option.some.inj ((show Tryd.prog.funcNamed "ablaut/ablautlaw30.AnalogyLevel" = some 7 by kernel_rfl).symm.trans hf) |>.symm
      obtain rfl : fn = Tryd.f7 := (Option.some.inj (Tryd.func7.symm.trans hfn)).symm
      exact ⟨by kernel_rfl, fun j t ht => by
        rw [Tryd.params7] at ht
        have hm : t ∈ [52, 5] := by
          have := Array.mem_of_getElem? ht
          simpa using this
        have hall : ([52, 5].all fun u => !Tryd.prog.wantsStandIn u) = true := by kernel_rfl
        exact (show Tryd.prog.wantsStandIn t = false by simpa using List.all_eq_true.1 hall t hm)⟩)
    (by kernel_rfl)
#print axioms analogyLevel_card
end Go.Proofs.YtpbbnmjkbfbelaaDoor
