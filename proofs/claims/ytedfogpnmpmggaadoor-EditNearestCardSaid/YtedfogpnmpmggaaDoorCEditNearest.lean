/- EditNearest: for every input the law returns true, and its arguments read as before. There is no condition beside the statement's own. -/
import Derived.Test.YtedfogpnmpmggaaDoorHh
import Derived.Test.YtedfogpnmpmggaaDoorWc
import Derived.Test.YtedfogpnmpmggaaDoorTie
import Derived.Test.YtedfogpnmpmggaaDoorCards
set_option linter.unusedSimpArgs false
set_option linter.unusedVariables false
namespace Go.Proofs.YtedfogpnmpmggaaDoor
open Go Go.Sy Go.ChangeShapes Go.WideShapes Go.ChangeAt Go.WideElems Go.RowKit Go.Joins Go.Deep
set_option maxRecDepth 100000 in
theorem editNearest_lifted (os : Os) (started : os.Started) (H : Type) (enc : TypeId × Value → H) :
    ReturnsInHanded {} Tryd.checked os 11 .any (fun w args => (Rows.editNearestSpec.pre enc Tryd.prog Tryd.f11 [] false w args ∧ laidMetH Tryd.prog laidL w) ∧ sizedMet enc Tryd.prog Tryd.f11 (OpenSpec.ofChange Rows.editNearestSpec) false w args) (Rows.editNearestSpec.post enc Tryd.prog Tryd.f11 false true false false) :=
  law_lifted (tb := 4) #[.slice none 0 0, .slice none 0 0, .slice none 0 0, .int .u16 0] (by kernel_rfl) Tryd.func11 rfl (by kernel_rfl) (by kernel_rfl) Tryd.underlying4 (fun H ds h => by
    rw [Tryd.params11] at h
    match ds, h with
    | [_, _, _, _], _ => rfl) os started H enc (World.shaped_of_RefB (by kernel_rfl) (by kernel_rfl)) (by kernel_rfl) (by kernel_rfl) (by kernel_rfl) fun W base args ds p hT hval hA => by
    rw [Tryd.params11] at hA hval
    obtain ⟨v0, v1, v2, v3, d0, d1, d2, d3, p0, p1, p2, p3, rfl, rfl, rfl, h0, h1, h2, h3⟩ := trodAll_four hA
    obtain ⟨x, rfl, hx⟩ := arg_slN Tryd.underlying46 (show Tryd.prog.cellsOf 59 = 2 by kernel_rfl) (reads_pair (k := .u8) Tryd.underlying59 (by kernel_rfl) (by kernel_rfl) Tryd.underlying5) (hval 0 46 v0 rfl rfl) h0
    obtain ⟨q, rfl, hq⟩ := arg_slN Tryd.underlying69 (show Tryd.prog.cellsOf 46 = 1 by kernel_rfl) (reads_slN Tryd.underlying46 (show Tryd.prog.cellsOf 59 = 2 by kernel_rfl) (reads_pair (k := .u8) Tryd.underlying59 (by kernel_rfl) (by kernel_rfl) Tryd.underlying5)) (hval 1 69 v1 rfl rfl) h1
    obtain ⟨wp, wc, ww, rfl, hw⟩ := open_u16s Tryd.underlying47 Tryd.underlying48 (by kernel_rfl) (hval 2 47 v2 rfl rfl) h2
    obtain ⟨g, rfl, rfl, rfl, wg⟩ := open_int Tryd.underlying48 (hval 3 48 v3 rfl rfl) h3
    exact ⟨_, _, rfl, ⟨hx.1, ⟨hq.1, fun s hs => (hq.2.2.2 s hs).1⟩, hw.1, hT⟩, l_EditNearest' x.p wp x.cap wc x.l q ww g hx.2.2.2 (fun s hs => (hq.2.2.2 s hs).2.2.2) hw.2.2 wg⟩
theorem editNearest_holds : Rows.EditNearestSaid :=
  OpenClaim.holds_of_wide 11 Tryd.f11 rfl rfl rfl rfl rfl rfl rfl ⟨rfl, rfl, rfl, rfl, rfl⟩ rfl rfl rfl rfl rfl (by kernel_rfl) Tryd.func11 (by kernel_rfl)
    (of_decide_eq_true (by kernel_rfl)) (by unfold Func.isWrapper; first | (rw [if_pos (by decide +kernel)]; kernel_rfl) | (rw [if_neg (by decide +kernel)]; exact ⟨rfl, rfl⟩))
    (fun os started H enc _ => editNearest_lifted os started H enc)
theorem editNearest_card : Rows.EditNearestCardSaid :=
  Claim7.holds_tied_plain_at .later [] [.data] true (true, "afe5bbe106398cd9cd67dd048aec4c741dfcb00040ef3a1f6b32584d5db75a0e") false
    editNearest_holds (fun _ h => by cases h) (by kernel_rfl) (fun _ h => by cases h) editNearest_row_tie rfl ⟨rfl, rfl⟩ (by kernel_rfl) rfl
    (fun f fn hf hfn => by
      obtain rfl : f = 11 := Option.some.inj ((show Tryd.prog.funcNamed "ablaut/ablautlaw17.EditNearest" = some 11 by kernel_rfl).symm.trans hf) |>.symm
      obtain rfl : fn = Tryd.f11 := (Option.some.inj (Tryd.func11.symm.trans hfn)).symm
      exact ⟨by kernel_rfl, fun j t ht => by
        rw [Tryd.params11] at ht
        have hm : t ∈ [46, 69, 47, 48] := by
          have := Array.mem_of_getElem? ht
          simpa using this
        have hall : ([46, 69, 47, 48].all fun u => !Tryd.prog.wantsStandIn u) = true := by kernel_rfl
        exact (show Tryd.prog.wantsStandIn t = false by simpa using List.all_eq_true.1 hall t hm)⟩)
    (by kernel_rfl)
#print axioms editNearest_card
end Go.Proofs.YtedfogpnmpmggaaDoor
