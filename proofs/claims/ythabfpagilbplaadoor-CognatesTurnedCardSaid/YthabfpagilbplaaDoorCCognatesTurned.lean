/- CognatesTurned: for every input the law returns true, and its arguments read as before. There is no condition beside the statement's own. -/
import Derived.Test.YthabfpagilbplaaDoorRw
import Derived.Test.YthabfpagilbplaaDoorBx
import Derived.Test.YthabfpagilbplaaDoorBw
import Derived.Test.YthabfpagilbplaaDoorTie
import Derived.Test.YthabfpagilbplaaDoorCards
set_option linter.unusedSimpArgs false
set_option linter.unusedVariables false
namespace Go.Proofs.YthabfpagilbplaaDoor
open Go Go.Sy Go.ChangeShapes Go.WideShapes Go.ChangeAt Go.WideElems Go.RowKit Go.Joins Go.Deep
set_option maxRecDepth 100000 in
theorem cognatesTurned_lifted (os : Os) (started : os.Started) (H : Type) (enc : TypeId × Value → H) :
    ReturnsInHanded {} Tryd.checked os 9 .any (fun w args => (Rows.cognatesTurnedSpec.pre enc Tryd.prog Tryd.f9 [] false w args ∧ laidMetH Tryd.prog laidL w) ∧ sizedMet enc Tryd.prog Tryd.f9 (OpenSpec.ofChange Rows.cognatesTurnedSpec) false w args) (Rows.cognatesTurnedSpec.post enc Tryd.prog Tryd.f9 false true false false) :=
  law_lifted (tb := 4) #[.slice none 0 0, .slice none 0 0, .int .u8 0, .int .u16 0] (by kernel_rfl) Tryd.func9 rfl (by kernel_rfl) (by kernel_rfl) Tryd.underlying4 (fun H ds h => by
    rw [Tryd.params9] at h
    match ds, h with
    | [_, _, _, _], _ => rfl) os started H enc (World.shaped_of_RefB (by kernel_rfl) (by kernel_rfl)) (by kernel_rfl) (by kernel_rfl) (by kernel_rfl) fun W base args ds p hT hval hA => by
    rw [Tryd.params9] at hA hval
    obtain ⟨v0, v1, v2, v3, d0, d1, d2, d3, p0, p1, p2, p3, rfl, rfl, rfl, h0, h1, h2, h3⟩ := trodAll_four hA
    obtain ⟨a, rfl, ha⟩ := arg_slN Tryd.underlying63 (show Tryd.prog.cellsOf 5 = 1 by kernel_rfl) (reads_int (k := .u8) Tryd.underlying5) (hval 0 63 v0 rfl rfl) h0
    obtain ⟨b, rfl, hb⟩ := arg_slN Tryd.underlying63 (show Tryd.prog.cellsOf 5 = 1 by kernel_rfl) (reads_int (k := .u8) Tryd.underlying5) (hval 1 63 v1 rfl rfl) h1
    obtain ⟨n, rfl, rfl, rfl, wn⟩ := open_int Tryd.underlying5 (hval 2 5 v2 rfl rfl) h2
    obtain ⟨m, rfl, rfl, rfl, wm⟩ := open_int Tryd.underlying47 (hval 3 47 v3 rfl rfl) h3
    have hcall := l_CognatesTurned a.p b.p a.cap b.cap a.l b.l n m (len62 ha.2.2.1) (len62 hb.2.2.1) (fun x hx => wf8 (ha.2.2.2 x hx)) (fun x hx => wf8 (hb.2.2.2 x hx)) (wf8 wn) (wf16 wm)
    exact ⟨_, _, rfl, ⟨cells_map1 ha.1, cells_map1 hb.1, hT⟩, hcall⟩
theorem cognatesTurned_holds : Rows.CognatesTurnedSaid :=
  OpenClaim.holds_of_wide 9 Tryd.f9 rfl rfl rfl rfl rfl rfl rfl ⟨rfl, rfl, rfl, rfl, rfl⟩ rfl rfl rfl rfl rfl (by kernel_rfl) Tryd.func9 (by kernel_rfl)
    (of_decide_eq_true (by kernel_rfl)) (by unfold Func.isWrapper; first | (rw [if_pos (by decide +kernel)]; kernel_rfl) | (rw [if_neg (by decide +kernel)]; exact ⟨rfl, rfl⟩))
    (fun os started H enc _ => cognatesTurned_lifted os started H enc)
theorem cognatesTurned_card : Rows.CognatesTurnedCardSaid :=
  Claim7.holds_tied_plain_at .later [] [.data] true (true, "74ded2b13ce3947ec1417d0a3395b495d68a45363c58ec8ee3d6fbdb1ee942b2") false
    cognatesTurned_holds (fun _ h => by cases h) (by kernel_rfl) (fun _ h => by cases h) cognatesTurned_row_tie rfl ⟨rfl, rfl⟩ (by kernel_rfl) rfl
    (fun f fn hf hfn => by
      obtain rfl : f = 9 := Option.some.inj ((show Tryd.prog.funcNamed "ablaut/ablautlaw19.CognatesTurned" = some 9 by kernel_rfl).symm.trans hf) |>.symm
      obtain rfl : fn = Tryd.f9 := (Option.some.inj (Tryd.func9.symm.trans hfn)).symm
      exact ⟨by kernel_rfl, fun j t ht => by
        rw [Tryd.params9] at ht
        have hm : t ∈ [63, 5, 47] := by
          have := Array.mem_of_getElem? ht
          simpa using this
        have hall : ([63, 5, 47].all fun u => !Tryd.prog.wantsStandIn u) = true := by kernel_rfl
        exact (show Tryd.prog.wantsStandIn t = false by simpa using List.all_eq_true.1 hall t hm)⟩)
    (by kernel_rfl)
#print axioms cognatesTurned_card
end Go.Proofs.YthabfpagilbplaaDoor
