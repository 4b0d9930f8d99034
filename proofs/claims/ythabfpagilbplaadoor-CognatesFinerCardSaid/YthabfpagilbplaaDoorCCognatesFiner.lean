/- CognatesFiner: for every input the law returns true, and its arguments read as before. There is no condition beside the statement's own. -/
import Derived.Test.YthabfpagilbplaaDoorBl
import Derived.Test.YthabfpagilbplaaDoorBx
import Derived.Test.YthabfpagilbplaaDoorBw
import Derived.Test.YthabfpagilbplaaDoorTie
import Derived.Test.YthabfpagilbplaaDoorCards
set_option linter.unusedSimpArgs false
set_option linter.unusedVariables false
namespace Go.Proofs.YthabfpagilbplaaDoor
open Go Go.Sy Go.ChangeShapes Go.WideShapes Go.ChangeAt Go.WideElems Go.RowKit Go.Joins Go.Deep
set_option maxRecDepth 100000 in
theorem cognatesFiner_lifted (os : Os) (started : os.Started) (H : Type) (enc : TypeId × Value → H) :
    ReturnsInHanded {} Tryd.checked os 5 .any (fun w args => (Rows.cognatesFinerSpec.pre enc Tryd.prog Tryd.f5 [] false w args ∧ laidMetH Tryd.prog laidL w) ∧ sizedMet enc Tryd.prog Tryd.f5 (OpenSpec.ofChange Rows.cognatesFinerSpec) false w args) (Rows.cognatesFinerSpec.post enc Tryd.prog Tryd.f5 false true false false) :=
  law_lifted (tb := 4) #[.slice none 0 0, .agg #[.int .u8 0, .int .u8 0, .int .u8 0, .int .u8 0], .int .u8 0, .int .u8 0] (by kernel_rfl) Tryd.func5 rfl (by kernel_rfl) (by kernel_rfl) Tryd.underlying4 (fun H ds h => by
    rw [Tryd.params5] at h
    match ds, h with
    | [_, _, _, _], _ => rfl) os started H enc (World.shaped_of_RefB (by kernel_rfl) (by kernel_rfl)) (by kernel_rfl) (by kernel_rfl) (by kernel_rfl) fun W base args ds p hT hval hA => by
    rw [Tryd.params5] at hA hval
    obtain ⟨v0, v1, v2, v3, d0, d1, d2, d3, p0, p1, p2, p3, rfl, rfl, rfl, h0, h1, h2, h3⟩ := trodAll_four hA
    obtain ⟨s, rfl, hs⟩ := arg_slN Tryd.underlying38 (show Tryd.prog.cellsOf 63 = 1 by kernel_rfl) (reads_slN Tryd.underlying63 (show Tryd.prog.cellsOf 5 = 1 by kernel_rfl) (reads_int (k := .u8) Tryd.underlying5)) (hval 0 38 v0 rfl rfl) h0
    obtain ⟨ka, kb, kc, kd, rfl, hka, hkb, hkc, hkd⟩ := open_fourK Tryd.underlying39 Tryd.underlying5 (by kernel_rfl) (by kernel_rfl) (hval 1 39 v1 rfl rfl) h1
    obtain ⟨n, rfl, rfl, rfl, wn⟩ := open_int Tryd.underlying5 (hval 2 5 v2 rfl rfl) h2
    obtain ⟨d, rfl, rfl, rfl, wd⟩ := open_int Tryd.underlying5 (hval 3 5 v3 rfl rfl) h3
    have hcall := l_CognatesFiner s.p s.cap (s.l.map irOf) ka kb kc kd n d (by rw [List.length_map]; exact hs.2.1.2) (rows8_ok hs) (wf8 hka) (wf8 hkb) (wf8 hkc) (wf8 hkd) (wf8 wn) (wf8 wd)
    rw [List.length_map] at hcall
    exact ⟨_, _, rfl, ⟨rows8_at hs, hT⟩, hcall⟩
theorem cognatesFiner_holds : Rows.CognatesFinerSaid :=
  OpenClaim.holds_of_wide 5 Tryd.f5 rfl rfl rfl rfl rfl rfl rfl ⟨rfl, rfl, rfl, rfl, rfl⟩ rfl rfl rfl rfl rfl (by kernel_rfl) Tryd.func5 (by kernel_rfl)
    (of_decide_eq_true (by kernel_rfl)) (by unfold Func.isWrapper; first | (rw [if_pos (by decide +kernel)]; kernel_rfl) | (rw [if_neg (by decide +kernel)]; exact ⟨rfl, rfl⟩))
    (fun os started H enc _ => cognatesFiner_lifted os started H enc)
theorem cognatesFiner_card : Rows.CognatesFinerCardSaid :=
  Claim7.holds_tied_plain_at .later [] [.data] true (true, "74ded2b13ce3947ec1417d0a3395b495d68a45363c58ec8ee3d6fbdb1ee942b2") false
    cognatesFiner_holds (fun _ h => by cases h) (by kernel_rfl) (fun _ h => by cases h) cognatesFiner_row_tie rfl ⟨rfl, rfl⟩ (by kernel_rfl) rfl
    (fun f fn hf hfn => by
      obtain rfl : f = 5 := Option.some.inj ((show Tryd.prog.funcNamed "ablaut/ablautlaw19.CognatesFiner" = some 5 by kernel_rfl).symm.trans hf) |>.symm
      obtain rfl : fn = Tryd.f5 := (Option.some.inj (Tryd.func5.symm.trans hfn)).symm
      exact ⟨by kernel_rfl, fun j t ht => by
        rw [Tryd.params5] at ht
        have hm : t ∈ [38, 39, 5] := by
          have := Array.mem_of_getElem? ht
          simpa using this
        have hall : ([38, 39, 5].all fun u => !Tryd.prog.wantsStandIn u) = true := by kernel_rfl
        exact (show Tryd.prog.wantsStandIn t = false by simpa using List.all_eq_true.1 hall t hm)⟩)
    (by kernel_rfl)
#print axioms cognatesFiner_card
end Go.Proofs.YthabfpagilbplaaDoor
