/- MultiAdded: for every input the law returns true, and its arguments read as before. There is no condition beside the statement's own. -/
import Derived.Test.YtialbhieaipcgaaDoorYu
import Derived.Test.YtialbhieaipcgaaDoorBt
import Derived.Test.YtialbhieaipcgaaDoorTie
import Derived.Test.YtialbhieaipcgaaDoorCards
set_option linter.unusedSimpArgs false
set_option linter.unusedVariables false
namespace Go.Proofs.YtialbhieaipcgaaDoor
open Go Go.Sy Go.ChangeShapes Go.WideShapes Go.ChangeAt Go.WideElems Go.RowKit Go.Joins Go.Deep
set_option maxRecDepth 100000 in
theorem multiAdded_lifted (os : Os) (started : os.Started) (H : Type) (enc : TypeId × Value → H) :
    ReturnsInHanded {} Tryd.checked os 9 .any (fun w args => (Rows.multiAddedSpec.pre enc Tryd.prog Tryd.f9 [] false w args ∧ laidMetH Tryd.prog laidL w) ∧ sizedMet enc Tryd.prog Tryd.f9 (OpenSpec.ofChange Rows.multiAddedSpec) false w args) (Rows.multiAddedSpec.post enc Tryd.prog Tryd.f9 false true false false) :=
  law_lifted (tb := 4) #[.slice none 0 0, .slice none 0 0, .agg #[.slice none 0 0, .int .i64 0], .slice none 0 0] (by kernel_rfl) Tryd.func9 rfl (by kernel_rfl) (by kernel_rfl) Tryd.underlying4 (fun H ds h => by
    rw [Tryd.params9] at h
    match ds, h with
    | [_, _, _, _], _ => rfl) os started H enc (World.shaped_of_RefB (by kernel_rfl) (by kernel_rfl)) (by kernel_rfl) (by kernel_rfl) (by kernel_rfl) fun W base args ds p hT hval hA => by
    rw [Tryd.params9] at hA hval
    obtain ⟨v0, v1, v2, v3, d0, d1, d2, d3, p0, p1, p2, p3, rfl, rfl, rfl, h0, h1, h2, h3⟩ := trodAll_four hA
    obtain ⟨l, rfl, hl⟩ := arg_slN Tryd.underlying22 (show Tryd.prog.cellsOf 46 = 1 by kernel_rfl) (reads_slN Tryd.underlying46 (show Tryd.prog.cellsOf 65 = 2 by kernel_rfl) (reads_snd Tryd.underlying65 (by kernel_rfl) (by kernel_rfl) (by kernel_rfl) (by kernel_rfl) (by kernel_rfl) Tryd.underlying63 Tryd.underlying63)) (hval 0 22 v0 rfl rfl) h0
    obtain ⟨x, rfl, hx⟩ := arg_slN Tryd.underlying46 (show Tryd.prog.cellsOf 65 = 2 by kernel_rfl) (reads_snd Tryd.underlying65 (by kernel_rfl) (by kernel_rfl) (by kernel_rfl) (by kernel_rfl) (by kernel_rfl) Tryd.underlying63 Tryd.underlying63) (hval 1 46 v1 rfl rfl) h1
    obtain ⟨cp, cc, cw, cg, rfl, hc⟩ := open_costs _ _ Tryd.underlying26 (by kernel_rfl) (by kernel_rfl) Tryd.underlying24 Tryd.underlying2 (by kernel_rfl) Tryd.underlying2 (hval 2 26 v2 rfl rfl) h2
    obtain ⟨s, rfl, hs⟩ := arg_slN Tryd.underlying40 (show Tryd.prog.cellsOf 5 = 1 by kernel_rfl) (reads_int (k := .u8) Tryd.underlying5) (hval 3 40 v3 rfl rfl) h3
    have hcall := l_MultiAdded l.p cp s.p l.cap cc s.cap (l.l.map SL.wd) x.wd cw cg s.l (by rw [List.length_map]; exact len62 hl.2.2.1) (by rw [List.length_map]; exact hl.2.1.2) hl.2.1.1 (words_ok hl) (words_len' hl) hx.2.2.2 (len62 hx.2.2.1) (len62 hs.2.2.1)
    rw [List.length_map] at hcall
    exact ⟨_, _, rfl, ⟨words_at hl, hx.1, hc.1, cells_map1 hs.1, hT⟩, hcall⟩
theorem multiAdded_holds : Rows.MultiAddedSaid :=
  OpenClaim.holds_of_wide 9 Tryd.f9 rfl rfl rfl rfl rfl rfl rfl ⟨rfl, rfl, rfl, rfl, rfl⟩ rfl rfl rfl rfl rfl (by kernel_rfl) Tryd.func9 (by kernel_rfl)
    (of_decide_eq_true (by kernel_rfl)) (by unfold Func.isWrapper; first | (rw [if_pos (by decide +kernel)]; kernel_rfl) | (rw [if_neg (by decide +kernel)]; exact ⟨rfl, rfl⟩))
    (fun os started H enc _ => multiAdded_lifted os started H enc)
theorem multiAdded_card : Rows.MultiAddedCardSaid :=
  Claim7.holds_tied_plain_at .later [] [.data, .funcs] true (true, "9a77b33697a57e2dd38154b015add442cf2b6e8c5519e984bd1cf7a00083c174") false
    multiAdded_holds (fun _ h => by cases h) (by kernel_rfl) (fun _ h => by cases h) multiAdded_row_tie rfl ⟨rfl, rfl⟩ (by kernel_rfl) rfl
    (fun f fn hf hfn => by
      obtain rfl : f = 9 := Option.some.inj ((show Tryd.prog.funcNamed "ablaut/ablautlaw18.MultiAdded" = some 9 by kernel_rfl).symm.trans hf) |>.symm
      obtain rfl : fn = Tryd.f9 := (Option.some.inj (Tryd.func9.symm.trans hfn)).symm
      exact ⟨by kernel_rfl, fun j t ht => by
        rw [Tryd.params9] at ht
        have hm : t ∈ [22, 46, 26, 40] := by
          have := Array.mem_of_getElem? ht
          simpa using this
        have hall : ([22, 46, 26, 40].all fun u => !Tryd.prog.wantsStandIn u) = true := by kernel_rfl
        exact (show Tryd.prog.wantsStandIn t = false by simpa using List.all_eq_true.1 hall t hm)⟩)
    (by kernel_rfl)
#print axioms multiAdded_card
end Go.Proofs.YtialbhieaipcgaaDoor
