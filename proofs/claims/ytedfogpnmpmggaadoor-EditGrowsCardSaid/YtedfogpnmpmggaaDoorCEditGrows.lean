/- EditGrows: for every input the law returns true, and its arguments read as before. There is no condition beside the statement's own. -/
import Derived.Test.YtedfogpnmpmggaaDoorHc
import Derived.Test.YtedfogpnmpmggaaDoorWd
import Derived.Test.YtedfogpnmpmggaaDoorTie
import Derived.Test.YtedfogpnmpmggaaDoorCards
set_option linter.unusedSimpArgs false
set_option linter.unusedVariables false
namespace Go.Proofs.YtedfogpnmpmggaaDoor
open Go Go.Sy Go.ChangeShapes Go.WideShapes Go.ChangeAt Go.WideElems Go.RowKit Go.Joins Go.Deep
set_option maxRecDepth 100000 in
theorem editGrows_lifted (os : Os) (started : os.Started) (H : Type) (enc : TypeId × Value → H) :
    ReturnsInHanded {} Tryd.checked os 8 .any (fun w args => (Rows.editGrowsSpec.pre enc Tryd.prog Tryd.f8 [] false w args ∧ laidMetH Tryd.prog laidL w) ∧ sizedMet enc Tryd.prog Tryd.f8 (OpenSpec.ofChange Rows.editGrowsSpec) false w args) (Rows.editGrowsSpec.post enc Tryd.prog Tryd.f8 false true false false) :=
  law_lifted (tb := 4) #[.slice none 0 0, .slice none 0 0, .agg #[.int .u8 0, .int .u8 0], .slice none 0 0, .int .u16 0] (by kernel_rfl) Tryd.func8 rfl (by kernel_rfl) (by kernel_rfl) Tryd.underlying4 (fun H ds h => by
    rw [Tryd.params8] at h
    match ds, h with
    | [_, _, _, _, _], _ => rfl) os started H enc (World.shaped_of_RefB (by kernel_rfl) (by kernel_rfl)) (by kernel_rfl) (by kernel_rfl) (by kernel_rfl) fun W base args ds p hT hval hA => by
    rw [Tryd.params8] at hA hval
    obtain ⟨v0, vs0, d0, ds0, p0, q0, hargs, rfl, rfl, h0, r0⟩ := trodAll_cons hA
    obtain ⟨v1, vs1, d1, ds1, p1, q1, rfl, rfl, rfl, h1, r1⟩ := trodAll_cons r0
    obtain ⟨v2, vs2, d2, ds2, p2, q2, rfl, rfl, rfl, h2, r2⟩ := trodAll_cons r1
    obtain ⟨v3, vs3, d3, ds3, p3, q3, rfl, rfl, rfl, h3, r3⟩ := trodAll_cons r2
    obtain ⟨v4, vs4, d4, ds4, p4, q4, rfl, rfl, rfl, h4, r4⟩ := trodAll_cons r3
    obtain ⟨rfl, rfl, rfl⟩ := trodAll_nil r4
    obtain rfl : args = #[v0, v1, v2, v3, v4] := by rw [← Array.toList_inj]; exact hargs
    obtain ⟨x, rfl, hx⟩ := arg_slN Tryd.underlying46 (show Tryd.prog.cellsOf 59 = 2 by kernel_rfl) (reads_pair (k := .u8) Tryd.underlying59 (by kernel_rfl) (by kernel_rfl) Tryd.underlying5) (hval 0 46 v0 rfl rfl) h0
    obtain ⟨y, rfl, hy⟩ := arg_slN Tryd.underlying46 (show Tryd.prog.cellsOf 59 = 2 by kernel_rfl) (reads_pair (k := .u8) Tryd.underlying59 (by kernel_rfl) (by kernel_rfl) Tryd.underlying5) (hval 1 46 v1 rfl rfl) h1
    obtain ⟨s, rfl, hs⟩ := open_pairK Tryd.underlying59 Tryd.underlying5 (by kernel_rfl) (by kernel_rfl) (hval 2 59 v2 rfl rfl) h2
    obtain ⟨wp, wc, ww, rfl, hw⟩ := open_u16s Tryd.underlying47 Tryd.underlying48 (by kernel_rfl) (hval 3 47 v3 rfl rfl) h3
    obtain ⟨g, rfl, rfl, rfl, wg⟩ := open_int Tryd.underlying48 (hval 4 48 v4 rfl rfl) h4
    exact ⟨_, _, rfl, ⟨hx.1, hy.1, hw.1, hT⟩, l_EditGrows x.p y.p wp x.cap y.cap wc x.l y.l s ww g hx.2.2.2 hy.2.2.2 hs hw.2.2 wg hx.2.1.2 hy.2.1.2⟩
theorem editGrows_holds : Rows.EditGrowsSaid :=
  OpenClaim.holds_of_wide 8 Tryd.f8 rfl rfl rfl rfl rfl rfl rfl ⟨rfl, rfl, rfl, rfl, rfl⟩ rfl rfl rfl rfl rfl (by kernel_rfl) Tryd.func8 (by kernel_rfl)
    (of_decide_eq_true (by kernel_rfl)) (by unfold Func.isWrapper; first | (rw [if_pos (by decide +kernel)]; kernel_rfl) | (rw [if_neg (by decide +kernel)]; exact ⟨rfl, rfl⟩))
    (fun os started H enc _ => editGrows_lifted os started H enc)
theorem editGrows_card : Rows.EditGrowsCardSaid :=
  Claim7.holds_tied_plain_at .later [] [.data] true (true, "afe5bbe106398cd9cd67dd048aec4c741dfcb00040ef3a1f6b32584d5db75a0e") false
    editGrows_holds (fun _ h => by cases h) (by kernel_rfl) (fun _ h => by cases h) editGrows_row_tie rfl ⟨rfl, rfl⟩ (by kernel_rfl) rfl
    (fun f fn hf hfn => by
      obtain rfl : f = 8 := Option.some.inj ((show Tryd.prog.funcNamed "ablaut/ablautlaw17.EditGrows" = some 8 by kernel_rfl).symm.trans hf) |>.symm
      obtain rfl : fn = Tryd.f8 := (Option.some.inj (Tryd.func8.symm.trans hfn)).symm
      exact ⟨by kernel_rfl, fun j t ht => by
        rw [Tryd.params8] at ht
        have hm : t ∈ [46, 59, 47, 48] := by
          have := Array.mem_of_getElem? ht
          simpa using this
        have hall : ([46, 59, 47, 48].all fun u => !Tryd.prog.wantsStandIn u) = true := by kernel_rfl
        exact (show Tryd.prog.wantsStandIn t = false by simpa using List.all_eq_true.1 hall t hm)⟩)
    (by kernel_rfl)
#print axioms editGrows_card
end Go.Proofs.YtedfogpnmpmggaaDoor
