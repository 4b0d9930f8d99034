/- EditSubsequences: for every input the law returns true, and its arguments read as before. There is no condition beside the statement's own. -/
import Derived.Test.YtedfogpnmpmggaaDoorHb
import Derived.Test.YtedfogpnmpmggaaDoorWc
import Derived.Test.YtedfogpnmpmggaaDoorTie
import Derived.Test.YtedfogpnmpmggaaDoorCards
set_option linter.unusedSimpArgs false
set_option linter.unusedVariables false
namespace Go.Proofs.YtedfogpnmpmggaaDoor
open Go Go.Sy Go.ChangeShapes Go.WideShapes Go.ChangeAt Go.WideElems Go.RowKit Go.Joins Go.Deep
set_option maxRecDepth 100000 in
theorem editSubsequences_lifted (os : Os) (started : os.Started) (H : Type) (enc : TypeId × Value → H) :
    ReturnsInHanded {} Tryd.checked os 9 .any (fun w args => (Rows.editSubsequencesSpec.pre enc Tryd.prog Tryd.f9 [] false w args ∧ laidMetH Tryd.prog laidL w) ∧ sizedMet enc Tryd.prog Tryd.f9 (OpenSpec.ofChange Rows.editSubsequencesSpec) false w args) (Rows.editSubsequencesSpec.post enc Tryd.prog Tryd.f9 false true false false) :=
  law_lifted (tb := 4) #[.slice none 0 0, .slice none 0 0, .int .u16 0, .int .u8 0] (by kernel_rfl) Tryd.func9 rfl (by kernel_rfl) (by kernel_rfl) Tryd.underlying4 (fun H ds h => by
    rw [Tryd.params9] at h
    match ds, h with
    | [_, _, _, _], _ => rfl) os started H enc (World.shaped_of_RefB (by kernel_rfl) (by kernel_rfl)) (by kernel_rfl) (by kernel_rfl) (by kernel_rfl) fun W base args ds p hT hval hA => by
    rw [Tryd.params9] at hA hval
    obtain ⟨v0, v1, v2, v3, d0, d1, d2, d3, p0, p1, p2, p3, rfl, rfl, rfl, h0, h1, h2, h3⟩ := trodAll_four hA
    obtain ⟨x, rfl, hx⟩ := arg_slN Tryd.underlying46 (show Tryd.prog.cellsOf 59 = 2 by kernel_rfl) (reads_pair (k := .u8) Tryd.underlying59 (by kernel_rfl) (by kernel_rfl) Tryd.underlying5) (hval 0 46 v0 rfl rfl) h0
    obtain ⟨y, rfl, hy⟩ := arg_slN Tryd.underlying46 (show Tryd.prog.cellsOf 59 = 2 by kernel_rfl) (reads_pair (k := .u8) Tryd.underlying59 (by kernel_rfl) (by kernel_rfl) Tryd.underlying5) (hval 1 46 v1 rfl rfl) h1
    obtain ⟨g, rfl, rfl, rfl, wg⟩ := open_int Tryd.underlying48 (hval 2 48 v2 rfl rfl) h2
    obtain ⟨m, rfl, rfl, rfl, wm⟩ := open_int Tryd.underlying5 (hval 3 5 v3 rfl rfl) h3
    exact ⟨_, _, rfl, ⟨hx.1, hy.1, hT⟩, l_EditSubsequences x.p y.p x.cap y.cap x.l y.l g m hx.2.2.2 hy.2.2.2 wg wm⟩
theorem editSubsequences_holds : Rows.EditSubsequencesSaid :=
  OpenClaim.holds_of_wide 9 Tryd.f9 rfl rfl rfl rfl rfl rfl rfl ⟨rfl, rfl, rfl, rfl, rfl⟩ rfl rfl rfl rfl rfl (by kernel_rfl) Tryd.func9 (by kernel_rfl)
    (of_decide_eq_true (by kernel_rfl)) (by unfold Func.isWrapper; first | (rw [if_pos (by decide +kernel)]; kernel_rfl) | (rw [if_neg (by decide +kernel)]; exact ⟨rfl, rfl⟩))
    (fun os started H enc _ => editSubsequences_lifted os started H enc)
theorem editSubsequences_card : Rows.EditSubsequencesCardSaid :=
  Claim7.holds_tied_plain_at .later [] [.data] true (true, "afe5bbe106398cd9cd67dd048aec4c741dfcb00040ef3a1f6b32584d5db75a0e") false
    editSubsequences_holds (fun _ h => by cases h) (by kernel_rfl) (fun _ h => by cases h) editSubsequences_row_tie rfl ⟨rfl, rfl⟩ (by kernel_rfl) rfl
    (fun f fn hf hfn => by
      obtain rfl : f = 9 := Option.some.inj ((show Tryd.prog.funcNamed "ablaut/ablautlaw17.EditSubsequences" = some 9 by kernel_rfl).symm.trans hf) |>.symm
      obtain rfl : fn = Tryd.f9 := (Option.some.inj (Tryd.func9.symm.trans hfn)).symm
      exact ⟨by kernel_rfl, fun j t ht => by
        rw [Tryd.params9] at ht
        have hm : t ∈ [46, 48, 5] := by
          have := Array.mem_of_getElem? ht
          simpa using this
        have hall : ([46, 48, 5].all fun u => !Tryd.prog.wantsStandIn u) = true := by kernel_rfl
        exact (show Tryd.prog.wantsStandIn t = false by simpa using List.all_eq_true.1 hall t hm)⟩)
    (by kernel_rfl)
#print axioms editSubsequences_card
end Go.Proofs.YtedfogpnmpmggaaDoor
