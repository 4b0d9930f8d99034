/- AnalogyLevels: for every input the law returns true, and its arguments read as before. There is no condition beside the statement's own. -/
import Derived.Test.YtpbbnmjkbfbelaaDoorYg
import Derived.Test.YtpbbnmjkbfbelaaDoorWe
import Derived.Test.YtpbbnmjkbfbelaaDoorTie
import Derived.Test.YtpbbnmjkbfbelaaDoorCards
set_option linter.unusedSimpArgs false
set_option linter.unusedVariables false
namespace Go.Proofs.YtpbbnmjkbfbelaaDoor
open Go Go.Sy Go.ChangeShapes Go.WideShapes Go.ChangeAt Go.WideElems Go.RowKit Go.Joins Go.Deep
set_option maxRecDepth 100000 in
theorem analogyLevels_lifted (os : Os) (started : os.Started) (H : Type) (enc : TypeId × Value → H) :
    ReturnsInHanded {} Tryd.checked os 5 .any (fun w args => (Rows.analogyLevelsSpec.pre enc Tryd.prog Tryd.f5 [] false w args ∧ laidMetH Tryd.prog laidL w) ∧ sizedMet enc Tryd.prog Tryd.f5 (OpenSpec.ofChange Rows.analogyLevelsSpec) false w args) (Rows.analogyLevelsSpec.post enc Tryd.prog Tryd.f5 false true false false) :=
  law_liftedW (tb := 4) #[.slice none 0 0, .int .i64 0, .int .i64 0] (by kernel_rfl) Tryd.func5 rfl (by kernel_rfl) (by kernel_rfl) Tryd.underlying4 (fun H ds h => by
    rw [Tryd.params5] at h
    match ds, h with
    | [_, _, _], _ => rfl) os started H enc (World.shaped_of_RefB (by kernel_rfl) (by kernel_rfl)) (by kernel_rfl) (by kernel_rfl) (by kernel_rfl) fun W base args ds p hT hval hA hsz => by
    rw [Tryd.params5] at hA hval hsz
    obtain ⟨v0, v1, v2, d0, d1, d2, p0, p1, p2, rfl, rfl, rfl, h0, h1, h2⟩ := trodAll_three hA
    obtain ⟨s, rfl, hs, _⟩ := arg_slW Tryd.underlying38 (show Tryd.prog.cellsOf 39 = 1 by kernel_rfl) (reads_slW Tryd.underlying39 (show Tryd.prog.cellsOf 41 = 2 by kernel_rfl) (readsW (reads_form Tryd.underlying41 (by kernel_rfl) (by kernel_rfl) (by kernel_rfl) (by kernel_rfl) (by kernel_rfl) Tryd.underlying4 (reads_slN Tryd.underlying22 (show Tryd.prog.cellsOf 31 = 2 by kernel_rfl) (reads_snd Tryd.underlying31 (by kernel_rfl) (by kernel_rfl) (by kernel_rfl) (by kernel_rfl) (by kernel_rfl) Tryd.underlying29 Tryd.underlying29))))) (hval 0 38 v0 rfl rfl) h0 (weightsEach_at (j := 0) hsz rfl rfl)
    simp only [show Tryd.prog.bytesOf 41 = 32 by kernel_rfl] at hs
    obtain ⟨a, rfl, rfl, rfl, _⟩ := open_int Tryd.underlying3 (hval 1 3 v1 rfl rfl) h1
    obtain ⟨b, rfl, rfl, rfl, _⟩ := open_int Tryd.underlying3 (hval 2 3 v2 rfl rfl) h2
    have hcall := l_AnalogyLevels s.p s.cap (s.l.map ldOf) a b (table_len hs) (table_rows hs).1 (table_rows hs).2 (table_ok hs)
    rw [List.length_map] at hcall
    exact ⟨_, _, rfl, ⟨table_at hs, hT⟩, hcall⟩
theorem analogyLevels_holds : Rows.AnalogyLevelsSaid :=
  OpenClaim.holds_of_wide 5 Tryd.f5 rfl rfl rfl rfl rfl rfl rfl ⟨rfl, rfl, rfl, rfl, rfl⟩ rfl rfl rfl rfl rfl (by kernel_rfl) Tryd.func5 (by kernel_rfl)
    (of_decide_eq_true (by kernel_rfl)) (by unfold Func.isWrapper; first | (rw [if_pos (by decide +kernel)]; kernel_rfl) | (rw [if_neg (by decide +kernel)]; exact ⟨rfl, rfl⟩))
    (fun os started H enc _ => analogyLevels_lifted os started H enc)
theorem analogyLevels_card : Rows.AnalogyLevelsCardSaid :=
  Claim7.holds_tied_plain_at .later [] [.funcs, .funcs] true (true, "0e8efc18f4f016596635a4ebdede4c84d43fbe35cbf0d14a1e28b45916986308") false
    analogyLevels_holds (fun _ h => by cases h) (by kernel_rfl) (fun _ h => by cases h) analogyLevels_row_tie rfl ⟨rfl, rfl⟩ (by kernel_rfl) rfl
    (fun f fn hf hfn => by
      obtain rfl : f = 5 := Option.some.inj ((show Tryd.prog.funcNamed "ablaut/ablautlaw30.AnalogyLevels" = some 5 by kernel_rfl).symm.trans hf) |>.symm
      obtain rfl : fn = Tryd.f5 := (Option.some.inj (Tryd.func5.symm.trans hfn)).symm
      exact ⟨by kernel_rfl, fun j t ht => by
        rw [Tryd.params5] at ht
        have hm : t ∈ [38, 3] := by
          have := Array.mem_of_getElem? ht
          simpa using this
        have hall : ([38, 3].all fun u => !Tryd.prog.wantsStandIn u) = true := by kernel_rfl
        exact (show Tryd.prog.wantsStandIn t = false by simpa using List.all_eq_true.1 hall t hm)⟩)
    (by kernel_rfl)
#print axioms analogyLevels_card
end Go.Proofs.YtpbbnmjkbfbelaaDoor
