/- AnalogyCost: for every input the law returns true, and its arguments read as before. There is no condition beside the statement's own. -/
import Derived.Test.YtpbbnmjkbfbelabDoorZe
import Derived.Test.YtpbbnmjkbfbelabDoorWz
import Derived.Test.YtpbbnmjkbfbelabDoorTie
import Derived.Test.YtpbbnmjkbfbelabDoorCards
set_option linter.unusedSimpArgs false
set_option linter.unusedVariables false
namespace Go.Proofs.YtpbbnmjkbfbelabDoor
open Go Go.Sy Go.ChangeShapes Go.WideShapes Go.ChangeAt Go.WideElems Go.RowKit Go.Joins Go.Deep
set_option maxRecDepth 100000 in
theorem analogyCost_lifted (os : Os) (started : os.Started) (H : Type) (enc : TypeId × Value → H) :
    ReturnsInHanded {} Tryd.checked os 3 .any (fun w args => (Rows.analogyCostSpec.pre enc Tryd.prog Tryd.f3 [] false w args ∧ laidMetH Tryd.prog laidL w) ∧ sizedMet enc Tryd.prog Tryd.f3 (OpenSpec.ofChange Rows.analogyCostSpec) false w args) (Rows.analogyCostSpec.post enc Tryd.prog Tryd.f3 false true false false) :=
  law_lifted (tb := 4) #[.slice none 0 0, .slice none 0 0, .agg #[.slice none 0 0, .slice none 0 0], .int .u8 0, .int .u8 0] (by kernel_rfl) Tryd.func3 rfl (by kernel_rfl) (by kernel_rfl) Tryd.underlying4 (fun H ds h => by
    rw [Tryd.params3] at h
    match ds, h with
    | [_, _, _, _, _], _ => rfl) os started H enc (World.shaped_of_RefB (by kernel_rfl) (by kernel_rfl)) (by kernel_rfl) (by kernel_rfl) (by kernel_rfl) fun W base args ds p hT hval hA => by
    rw [Tryd.params3] at hA hval
    obtain ⟨v0, vs0, d0, ds0, p0, q0, hargs, rfl, rfl, h0, r0⟩ := trodAll_cons hA
    obtain ⟨v1, vs1, d1, ds1, p1, q1, rfl, rfl, rfl, h1, r1⟩ := trodAll_cons r0
    obtain ⟨v2, vs2, d2, ds2, p2, q2, rfl, rfl, rfl, h2, r2⟩ := trodAll_cons r1
    obtain ⟨v3, vs3, d3, ds3, p3, q3, rfl, rfl, rfl, h3, r3⟩ := trodAll_cons r2
    obtain ⟨v4, vs4, d4, ds4, p4, q4, rfl, rfl, rfl, h4, r4⟩ := trodAll_cons r3
    obtain ⟨rfl, rfl, rfl⟩ := trodAll_nil r4
    obtain rfl : args = #[v0, v1, v2, v3, v4] := by rw [← Array.toList_inj]; exact hargs
    obtain ⟨s, rfl, hs⟩ := arg_slN Tryd.underlying22 (show Tryd.prog.cellsOf 28 = 2 by kernel_rfl) (reads_two Tryd.underlying28 (by kernel_rfl) (by kernel_rfl) (by kernel_rfl) (by kernel_rfl) (by kernel_rfl) (reads_slN Tryd.underlying23 (show Tryd.prog.cellsOf 46 = 2 by kernel_rfl) (reads_snd Tryd.underlying46 (by kernel_rfl) (by kernel_rfl) (by kernel_rfl) (by kernel_rfl) (by kernel_rfl) Tryd.underlying44 Tryd.underlying44)) (reads_slN Tryd.underlying23 (show Tryd.prog.cellsOf 46 = 2 by kernel_rfl) (reads_snd Tryd.underlying46 (by kernel_rfl) (by kernel_rfl) (by kernel_rfl) (by kernel_rfl) (by kernel_rfl) Tryd.underlying44 Tryd.underlying44))) (hval 0 22 v0 rfl rfl) h0
    obtain ⟨x, rfl, hx⟩ := arg_slN Tryd.underlying23 (show Tryd.prog.cellsOf 46 = 2 by kernel_rfl) (reads_snd Tryd.underlying46 (by kernel_rfl) (by kernel_rfl) (by kernel_rfl) (by kernel_rfl) (by kernel_rfl) Tryd.underlying44 Tryd.underlying44) (hval 1 23 v1 rfl rfl) h1
    obtain ⟨yA, yB, rfl, hyA, hyB⟩ := open_words Tryd.underlying24 (by kernel_rfl) (by kernel_rfl) (reads_slN Tryd.underlying23 (show Tryd.prog.cellsOf 46 = 2 by kernel_rfl) (reads_snd Tryd.underlying46 (by kernel_rfl) (by kernel_rfl) (by kernel_rfl) (by kernel_rfl) (by kernel_rfl) Tryd.underlying44 Tryd.underlying44)) (hval 2 24 v2 rfl rfl) h2
    obtain ⟨a, rfl, rfl, rfl, wa⟩ := open_int Tryd.underlying5 (hval 3 5 v3 rfl rfl) h3
    obtain ⟨g, rfl, rfl, rfl, wg⟩ := open_int Tryd.underlying5 (hval 4 5 v4 rfl rfl) h4
    have hcall := l_AnalogyCost s.p s.cap (s.l.map mdOf) ⟨x.p, x.cap, x.l⟩ ⟨yA.p, yA.cap, yA.l⟩ ⟨yB.p, yB.cap, yB.l⟩ a g (models_ok hs) hx.2.2.2 hyA.2.2.2 hyB.2.2.2 ⟨hx.2.1.2, hx.2.1.1⟩ (models_len hs) (u8_range wa) (u8_range wg)
    rw [List.length_map] at hcall
    exact ⟨_, _, rfl, ⟨models_at hs, hx.1, hyA.1, hyB.1, hT⟩, hcall⟩
theorem analogyCost_holds : Rows.AnalogyCostSaid :=
  OpenClaim.holds_of_wide 3 Tryd.f3 rfl rfl rfl rfl rfl rfl rfl ⟨rfl, rfl, rfl, rfl, rfl⟩ rfl rfl rfl rfl rfl (by kernel_rfl) Tryd.func3 (by kernel_rfl)
    (of_decide_eq_true (by kernel_rfl)) (by unfold Func.isWrapper; first | (rw [if_pos (by decide +kernel)]; kernel_rfl) | (rw [if_neg (by decide +kernel)]; exact ⟨rfl, rfl⟩))
    (fun os started H enc _ => analogyCost_lifted os started H enc)
theorem analogyCost_card : Rows.AnalogyCostCardSaid :=
  Claim7.holds_tied_plain_at .later [] [.data, .funcs, .funcs, .funcs] true (true, "66bade4f205ab6d538d6b9a5e51096ec3f54fc727400ed025a8822c69760e6f2") false
    analogyCost_holds (fun _ h => by cases h) (by kernel_rfl) (fun _ h => by cases h) analogyCost_row_tie rfl ⟨rfl, rfl⟩ (by kernel_rfl) rfl
    (fun f fn hf hfn => by
      obtain rfl : f = 3 := Option.some.inj ((show Tryd.prog.funcNamed "ablaut/ablautlaw30.AnalogyCost" = some 3 by kernel_rfl).symm.trans hf) |>.symm
      obtain rfl : fn = Tryd.f3 := (Option.some.inj (Tryd.func3.symm.trans hfn)).symm
      exact ⟨by kernel_rfl, fun j t ht => by
        rw [Tryd.params3] at ht
        have hm : t ∈ [22, 23, 24, 5] := by
          have := Array.mem_of_getElem? ht
          simpa using this
        have hall : ([22, 23, 24, 5].all fun u => !Tryd.prog.wantsStandIn u) = true := by kernel_rfl
        exact (show Tryd.prog.wantsStandIn t = false by simpa using List.all_eq_true.1 hall t hm)⟩)
    (by kernel_rfl)
#print axioms analogyCost_card
end Go.Proofs.YtpbbnmjkbfbelabDoor
