/- CognatesMany: for every input the law returns true, and its arguments read as before. There is no condition beside the statement's own. -/
import Derived.Test.YthabfpagilbplaaDoorMd
import Derived.Test.YthabfpagilbplaaDoorBx
import Derived.Test.YthabfpagilbplaaDoorBw
import Derived.Test.YthabfpagilbplaaDoorTie
import Derived.Test.YthabfpagilbplaaDoorCards
set_option linter.unusedSimpArgs false
set_option linter.unusedVariables false
namespace Go.Proofs.YthabfpagilbplaaDoor
open Go Go.Sy Go.ChangeShapes Go.WideShapes Go.ChangeAt Go.WideElems Go.RowKit Go.Joins Go.Deep
set_option maxRecDepth 100000 in
theorem cognatesMany_lifted (os : Os) (started : os.Started) (H : Type) (enc : TypeId × Value → H) :
    ReturnsInHanded {} Tryd.checked os 14 .any (fun w args => (Rows.cognatesManySpec.pre enc Tryd.prog Tryd.f14 [] false w args ∧ laidMetH Tryd.prog laidL w) ∧ sizedMet enc Tryd.prog Tryd.f14 (OpenSpec.ofChange Rows.cognatesManySpec) false w args) (Rows.cognatesManySpec.post enc Tryd.prog Tryd.f14 false true false false) :=
  law_lifted (tb := 4) #[.int .u8 0, .int .u8 0] (by kernel_rfl) Tryd.func14 rfl (by kernel_rfl) (by kernel_rfl) Tryd.underlying4 (fun H ds h => by
    rw [Tryd.params14] at h
    match ds, h with
    | [_, _], _ => rfl) os started H enc (World.shaped_of_RefB (by kernel_rfl) (by kernel_rfl)) (by kernel_rfl) (by kernel_rfl) (by kernel_rfl) fun W base args ds p hT hval hA => by
    rw [Tryd.params14] at hA hval
    obtain ⟨v0, v1, d0, d1, p0, p1, rfl, rfl, rfl, h0, h1⟩ := trodAll_two hA
    obtain ⟨n, rfl, rfl, rfl, wn⟩ := open_int Tryd.underlying5 (hval 0 5 v0 rfl rfl) h0
    obtain ⟨m, rfl, rfl, rfl, wm⟩ := open_int Tryd.underlying5 (hval 1 5 v1 rfl rfl) h1
    have hcall := l_CognatesMany n m (wf8 wn)
    exact ⟨_, _, rfl, hT, hcall⟩
theorem cognatesMany_holds : Rows.CognatesManySaid :=
  OpenClaim.holds_of_wide 14 Tryd.f14 rfl rfl rfl rfl rfl rfl rfl ⟨rfl, rfl, rfl, rfl, rfl⟩ rfl rfl rfl rfl rfl (by kernel_rfl) Tryd.func14 (by kernel_rfl)
    (of_decide_eq_true (by kernel_rfl)) (by unfold Func.isWrapper; first | (rw [if_pos (by decide +kernel)]; kernel_rfl) | (rw [if_neg (by decide +kernel)]; exact ⟨rfl, rfl⟩))
    (fun os started H enc _ => cognatesMany_lifted os started H enc)
theorem cognatesMany_card : Rows.CognatesManyCardSaid :=
  Claim7.holds_tied_plain_at .later [] [.data] true (true, "74ded2b13ce3947ec1417d0a3395b495d68a45363c58ec8ee3d6fbdb1ee942b2") false
    cognatesMany_holds (fun _ h => by cases h) (by kernel_rfl) (fun _ h => by cases h) cognatesMany_row_tie rfl ⟨rfl, rfl⟩ (by kernel_rfl) rfl
    (fun f fn hf hfn => by
      obtain rfl : f = 14 := Option.some.inj ((show Tryd.prog.funcNamed "ablaut/ablautlaw19.CognatesMany" = some 14 by kernel_rfl).symm.trans hf) |>.symm
      obtain rfl : fn = Tryd.f14 := (Option.some.inj (Tryd.func14.symm.trans hfn)).symm
      exact ⟨by kernel_rfl, fun j t ht => by
        rw [Tryd.params14] at ht
        have hm : t ∈ [5] := by
          have := Array.mem_of_getElem? ht
          simpa using this
        have hall : ([5].all fun u => !Tryd.prog.wantsStandIn u) = true := by kernel_rfl
        exact (show Tryd.prog.wantsStandIn t = false by simpa using List.all_eq_true.1 hall t hm)⟩)
    (by kernel_rfl)
#print axioms cognatesMany_card
end Go.Proofs.YthabfpagilbplaaDoor
