/- EditLongest: for every input the law returns true, and its arguments read as before. There is no condition beside the statement's own. -/
import Derived.Test.YtedfogpnmpmggaaDoorHm
import Derived.Test.YtedfogpnmpmggaaDoorWd
import Derived.Test.YtedfogpnmpmggaaDoorTie
import Derived.Test.YtedfogpnmpmggaaDoorCards
set_option linter.unusedSimpArgs false
set_option linter.unusedVariables false
namespace Go.Proofs.YtedfogpnmpmggaaDoor
open Go Go.Sy Go.ChangeShapes Go.WideShapes Go.ChangeAt Go.WideElems Go.RowKit Go.Joins Go.Deep
set_option maxRecDepth 100000 in
theorem editLongest_lifted (os : Os) (started : os.Started) (H : Type) (enc : TypeId × Value → H) :
    ReturnsInHanded {} Tryd.checked os 5 .any (fun w args => (Rows.editLongestSpec.pre enc Tryd.prog Tryd.f5 [] false w args ∧ laidMetH Tryd.prog laidL w) ∧ sizedMet enc Tryd.prog Tryd.f5 (OpenSpec.ofChange Rows.editLongestSpec) false w args) (Rows.editLongestSpec.post enc Tryd.prog Tryd.f5 false true false false) :=
  law_lifted (tb := 4) #[.slice none 0 0, .slice none 0 0] (by kernel_rfl) Tryd.func5 rfl (by kernel_rfl) (by kernel_rfl) Tryd.underlying4 (fun H ds h => by
    rw [Tryd.params5] at h
    match ds, h with
    | [_, _], _ => rfl) os started H enc (World.shaped_of_RefB (by kernel_rfl) (by kernel_rfl)) (by kernel_rfl) (by kernel_rfl) (by kernel_rfl) fun W base args ds p hT hval hA => by
    rw [Tryd.params5] at hA hval
    obtain ⟨v0, v1, d0, d1, p0, p1, rfl, rfl, rfl, h0, h1⟩ := trodAll_two hA
    obtain ⟨x, rfl, hx⟩ := arg_slN Tryd.underlying22 (show Tryd.prog.cellsOf 56 = 2 by kernel_rfl) (reads_snd Tryd.underlying56 (by kernel_rfl) (by kernel_rfl) (by kernel_rfl) (by kernel_rfl) (by kernel_rfl) Tryd.underlying54 Tryd.underlying54) (hval 0 22 v0 rfl rfl) h0
    obtain ⟨y, rfl, hy⟩ := arg_slN Tryd.underlying22 (show Tryd.prog.cellsOf 56 = 2 by kernel_rfl) (reads_snd Tryd.underlying56 (by kernel_rfl) (by kernel_rfl) (by kernel_rfl) (by kernel_rfl) (by kernel_rfl) Tryd.underlying54 Tryd.underlying54) (hval 1 22 v1 rfl rfl) h1
    exact ⟨_, _, rfl, ⟨hx.1, hy.1, hT⟩, l_EditLongest x.p y.p x.cap y.cap x.l y.l hx.2.2.2 hy.2.2.2⟩
theorem editLongest_holds : Rows.EditLongestSaid :=
  OpenClaim.holds_of_wide 5 Tryd.f5 rfl rfl rfl rfl rfl rfl rfl ⟨rfl, rfl, rfl, rfl, rfl⟩ rfl rfl rfl rfl rfl (by kernel_rfl) Tryd.func5 (by kernel_rfl)
    (of_decide_eq_true (by kernel_rfl)) (by unfold Func.isWrapper; first | (rw [if_pos (by decide +kernel)]; kernel_rfl) | (rw [if_neg (by decide +kernel)]; exact ⟨rfl, rfl⟩))
    (fun os started H enc _ => editLongest_lifted os started H enc)
theorem editLongest_card : Rows.EditLongestCardSaid :=
  Claim7.holds_tied_plain_at .later [] [.data] true (true, "afe5bbe106398cd9cd67dd048aec4c741dfcb00040ef3a1f6b32584d5db75a0e") false
    editLongest_holds (fun _ h => by cases h) (by kernel_rfl) (fun _ h => by cases h) editLongest_row_tie rfl ⟨rfl, rfl⟩ (by kernel_rfl) rfl
    (fun f fn hf hfn => by
      obtain rfl : f = 5 := Option.some.inj ((show Tryd.prog.funcNamed "ablaut/ablautlaw17.EditLongest" = some 5 by kernel_rfl).symm.trans hf) |>.symm
      obtain rfl : fn = Tryd.f5 := (Option.some.inj (Tryd.func5.symm.trans hfn)).symm
      exact ⟨by kernel_rfl, fun j t ht => by
        rw [Tryd.params5] at ht
        have hm : t ∈ [22] := by
          have := Array.mem_of_getElem? ht
          simpa using this
        have hall : ([22].all fun u => !Tryd.prog.wantsStandIn u) = true := by kernel_rfl
        exact (show Tryd.prog.wantsStandIn t = false by simpa using List.all_eq_true.1 hall t hm)⟩)
    (by kernel_rfl)
#print axioms editLongest_card
end Go.Proofs.YtedfogpnmpmggaaDoor
