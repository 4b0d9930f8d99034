/- EditLists: for every input the law returns true, and its arguments read as before. There is no condition beside the statement's own. -/
import Derived.Test.YtedfogpnmpmggaaDoorHl
import Derived.Test.YtedfogpnmpmggaaDoorWc
import Derived.Test.YtedfogpnmpmggaaDoorTie
import Derived.Test.YtedfogpnmpmggaaDoorCards
set_option linter.unusedSimpArgs false
set_option linter.unusedVariables false
namespace Go.Proofs.YtedfogpnmpmggaaDoor
open Go Go.Sy Go.ChangeShapes Go.WideShapes Go.ChangeAt Go.WideElems Go.RowKit Go.Joins Go.Deep
set_option maxRecDepth 100000 in
theorem editLists_lifted (os : Os) (started : os.Started) (H : Type) (enc : TypeId × Value → H) :
    ReturnsInHanded {} Tryd.checked os 10 .any (fun w args => (Rows.editListsSpec.pre enc Tryd.prog Tryd.f10 [] false w args ∧ laidMetH Tryd.prog laidL w) ∧ sizedMet enc Tryd.prog Tryd.f10 (OpenSpec.ofChange Rows.editListsSpec) false w args) (Rows.editListsSpec.post enc Tryd.prog Tryd.f10 false true false false) :=
  law_lifted (tb := 4) #[.slice none 0 0, .slice none 0 0, .agg #[.slice none 0 0, .int .i64 0], .int .u8 0] (by kernel_rfl) Tryd.func10 rfl (by kernel_rfl) (by kernel_rfl) Tryd.underlying4 (fun H ds h => by
    rw [Tryd.params10] at h
    match ds, h with
    | [_, _, _, _], _ => rfl) os started H enc (World.shaped_of_RefB (by kernel_rfl) (by kernel_rfl)) (by kernel_rfl) (by kernel_rfl) (by kernel_rfl) fun W base args ds p hT hval hA => by
    rw [Tryd.params10] at hA hval
    obtain ⟨v0, v1, v2, v3, d0, d1, d2, d3, p0, p1, p2, p3, rfl, rfl, rfl, h0, h1, h2, h3⟩ := trodAll_four hA
    obtain ⟨w, rfl, hw⟩ := arg_slN Tryd.underlying22 (show Tryd.prog.cellsOf 56 = 2 by kernel_rfl) (reads_snd Tryd.underlying56 (by kernel_rfl) (by kernel_rfl) (by kernel_rfl) (by kernel_rfl) (by kernel_rfl) Tryd.underlying54 Tryd.underlying54) (hval 0 22 v0 rfl rfl) h0
    obtain ⟨q, rfl, hq⟩ := arg_slN Tryd.underlying63 (show Tryd.prog.cellsOf 22 = 1 by kernel_rfl) (reads_slN Tryd.underlying22 (show Tryd.prog.cellsOf 56 = 2 by kernel_rfl) (reads_snd Tryd.underlying56 (by kernel_rfl) (by kernel_rfl) (by kernel_rfl) (by kernel_rfl) (by kernel_rfl) Tryd.underlying54 Tryd.underlying54)) (hval 1 63 v1 rfl rfl) h1
    obtain ⟨cp, cc, cw, cg, rfl, hc⟩ := open_costs _ _ Tryd.underlying25 (by kernel_rfl) (by kernel_rfl) Tryd.underlying23 Tryd.underlying2 (by kernel_rfl) Tryd.underlying2 (hval 2 25 v2 rfl rfl) h2
    obtain ⟨t, rfl, rfl, rfl, wt⟩ := open_int Tryd.underlying5 (hval 3 5 v3 rfl rfl) h3
    exact ⟨_, _, rfl, ⟨hw.1, ⟨hq.1, fun s hs => (hq.2.2.2 s hs).1⟩, hc.1, hT⟩, l_EditLists' w q cp cc cw cg t hw.2.2.2 (fun s hs => (hq.2.2.2 s hs).2.2.2)⟩
theorem editLists_holds : Rows.EditListsSaid :=
  OpenClaim.holds_of_wide 10 Tryd.f10 rfl rfl rfl rfl rfl rfl rfl ⟨rfl, rfl, rfl, rfl, rfl⟩ rfl rfl rfl rfl rfl (by kernel_rfl) Tryd.func10 (by kernel_rfl)
    (of_decide_eq_true (by kernel_rfl)) (by unfold Func.isWrapper; first | (rw [if_pos (by decide +kernel)]; kernel_rfl) | (rw [if_neg (by decide +kernel)]; exact ⟨rfl, rfl⟩))
    (fun os started H enc _ => editLists_lifted os started H enc)
theorem editLists_card : Rows.EditListsCardSaid :=
  Claim7.holds_tied_plain_at .later [] [.data] true (true, "afe5bbe106398cd9cd67dd048aec4c741dfcb00040ef3a1f6b32584d5db75a0e") false
    editLists_holds (fun _ h => by cases h) (by kernel_rfl) (fun _ h => by cases h) editLists_row_tie rfl ⟨rfl, rfl⟩ (by kernel_rfl) rfl
    (fun f fn hf hfn => by
      obtain rfl : f = 10 := Option.some.inj ((show Tryd.prog.funcNamed "ablaut/ablautlaw17.EditLists" = some 10 by kernel_rfl).symm.trans hf) |>.symm
      obtain rfl : fn = Tryd.f10 := (Option.some.inj (Tryd.func10.symm.trans hfn)).symm
      exact ⟨by kernel_rfl, fun j t ht => by
        rw [Tryd.params10] at ht
        have hm : t ∈ [22, 63, 25, 5] := by
          have := Array.mem_of_getElem? ht
          simpa using this
        have hall : ([22, 63, 25, 5].all fun u => !Tryd.prog.wantsStandIn u) = true := by kernel_rfl
        exact (show Tryd.prog.wantsStandIn t = false by simpa using List.all_eq_true.1 hall t hm)⟩)
    (by kernel_rfl)
#print axioms editLists_card
end Go.Proofs.YtedfogpnmpmggaaDoor
