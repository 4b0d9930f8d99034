/- MultiAdds: for every input the law returns true, and its arguments read as before. There is no condition beside the statement's own. -/
import Derived.Test.YtialbhieaipcgaaDoorYo
import Derived.Test.YtialbhieaipcgaaDoorWz
import Derived.Test.YtialbhieaipcgaaDoorBt
import Derived.Test.YtialbhieaipcgaaDoorTie
import Derived.Test.YtialbhieaipcgaaDoorCards
set_option linter.unusedSimpArgs false
set_option linter.unusedVariables false
namespace Go.Proofs.YtialbhieaipcgaaDoor
open Go Go.Sy Go.ChangeShapes Go.WideShapes Go.ChangeAt Go.WideElems Go.RowKit Go.Joins Go.Deep
set_option maxRecDepth 100000 in
theorem multiAdds_lifted (os : Os) (started : os.Started) (H : Type) (enc : TypeId × Value → H) :
    ReturnsInHanded {} Tryd.checked os 8 .any (fun w args => (Rows.multiAddsSpec.pre enc Tryd.prog Tryd.f8 [] false w args ∧ laidMetH Tryd.prog laidL w) ∧ sizedMet enc Tryd.prog Tryd.f8 (OpenSpec.ofChange Rows.multiAddsSpec) false w args) (Rows.multiAddsSpec.post enc Tryd.prog Tryd.f8 false true false false) :=
  law_lifted (tb := 4) #[.agg #[.slice none 0 0, .slice none 0 0, .slice none 0 0, .slice none 0 0, .int .i64 0]] (by kernel_rfl) Tryd.func8 rfl (by kernel_rfl) (by kernel_rfl) Tryd.underlying4 (fun H ds h => by
    rw [Tryd.params8] at h
    match ds, h with
    | [_], _ => rfl) os started H enc (World.shaped_of_RefB (by kernel_rfl) (by kernel_rfl)) (by kernel_rfl) (by kernel_rfl) (by kernel_rfl) fun W base args ds p hT hval hA => by
    rw [Tryd.params8] at hA hval
    obtain ⟨v0, d0, rfl, rfl, h0⟩ := trodAll_one hA
    obtain ⟨xL, xS, xW, xC, rfl, hxL, hxS, hxW, hxC⟩ := open_add Tryd.underlying48 (by kernel_rfl) (by kernel_rfl) (by kernel_rfl) (by kernel_rfl) (by kernel_rfl) (by kernel_rfl) (by kernel_rfl) (by kernel_rfl) (by kernel_rfl) (reads_slN Tryd.underlying22 (show Tryd.prog.cellsOf 46 = 1 by kernel_rfl) (reads_slN Tryd.underlying46 (show Tryd.prog.cellsOf 65 = 2 by kernel_rfl) (reads_snd Tryd.underlying65 (by kernel_rfl) (by kernel_rfl) (by kernel_rfl) (by kernel_rfl) (by kernel_rfl) Tryd.underlying63 Tryd.underlying63))) (reads_slN Tryd.underlying23 (show Tryd.prog.cellsOf 49 = 1 by kernel_rfl) (reads_slN Tryd.underlying49 (show Tryd.prog.cellsOf 3 = 1 by kernel_rfl) (reads_int (k := .i64) Tryd.underlying3))) (reads_slN Tryd.underlying46 (show Tryd.prog.cellsOf 65 = 2 by kernel_rfl) (reads_snd Tryd.underlying65 (by kernel_rfl) (by kernel_rfl) (by kernel_rfl) (by kernel_rfl) (by kernel_rfl) Tryd.underlying63 Tryd.underlying63)) (reads_costs Tryd.underlying26 (by kernel_rfl) (by kernel_rfl) (by kernel_rfl) (by kernel_rfl) (by kernel_rfl) Tryd.underlying24 Tryd.underlying2 (by kernel_rfl) Tryd.underlying2) (hval 0 48 v0 rfl rfl) h0
    have hcall := l_MultiAdds xL.p xS.p xC.p xL.cap xS.cap xC.cap (xL.l.map SL.wd) xW.wd (xS.l.map irOf) xC.l xC.gap (by rw [List.length_map]; exact len62 hxL.2.2.1) (by rw [List.length_map]; exact hxL.2.1.2) hxL.2.1.1 (by rw [List.length_map]; exact len62 hxS.2.2.1) (words_ok hxL) hxW.2.2.2 (len62 hxW.2.2.1) (words_len' hxL) (rows_len hxS) (rows_cap hxS)
    rw [List.length_map, List.length_map] at hcall
    exact ⟨_, _, rfl, ⟨words_at hxL, rows_at hxS, hxW.1, hxC.1, hT⟩, hcall⟩
theorem multiAdds_holds : Rows.MultiAddsSaid :=
  OpenClaim.holds_of_wide 8 Tryd.f8 rfl rfl rfl rfl rfl rfl rfl ⟨rfl, rfl, rfl, rfl, rfl⟩ rfl rfl rfl rfl rfl (by kernel_rfl) Tryd.func8 (by kernel_rfl)
    (of_decide_eq_true (by kernel_rfl)) (by unfold Func.isWrapper; first | (rw [if_pos (by decide +kernel)]; kernel_rfl) | (rw [if_neg (by decide +kernel)]; exact ⟨rfl, rfl⟩))
    (fun os started H enc _ => multiAdds_lifted os started H enc)
theorem multiAdds_card : Rows.MultiAddsCardSaid :=
  Claim7.holds_tied_plain_at .later [] [.data, .funcs] true (true, "9a77b33697a57e2dd38154b015add442cf2b6e8c5519e984bd1cf7a00083c174") false
    multiAdds_holds (fun _ h => by cases h) (by kernel_rfl) (fun _ h => by cases h) multiAdds_row_tie rfl ⟨rfl, rfl⟩ (by kernel_rfl) rfl
    (fun f fn hf hfn => by
      obtain rfl : f = 8 := Option.some.inj ((show Tryd.prog.funcNamed "ablaut/ablautlaw18.MultiAdds" = some 8 by kernel_rfl).symm.trans hf) |>.symm
      obtain rfl : fn = Tryd.f8 := (Option.some.inj (Tryd.func8.symm.trans hfn)).symm
      exact ⟨by kernel_rfl, fun j t ht => by
        rw [Tryd.params8] at ht
        have hm : t ∈ [48] := by
          have := Array.mem_of_getElem? ht
          simpa using this
        have hall : ([48].all fun u => !Tryd.prog.wantsStandIn u) = true := by kernel_rfl
        exact (show Tryd.prog.wantsStandIn t = false by simpa using List.all_eq_true.1 hall t hm)⟩)
    (by kernel_rfl)
#print axioms multiAdds_card
end Go.Proofs.YtialbhieaipcgaaDoor
