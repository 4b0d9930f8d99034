/- AnalogyCosts: for every input the law returns true, and its arguments read as before. There is no condition beside the statement's own. -/
import Derived.Test.YtpbbnmjkbfbelaaGreatDoorZb
import Derived.Test.YtpbbnmjkbfbelaaGreatDoorWz
import Derived.Test.YtpbbnmjkbfbelaaGreatDoorTie
import Derived.Test.YtpbbnmjkbfbelaaGreatDoorCards
set_option linter.unusedSimpArgs false
set_option linter.unusedVariables false
namespace Go.Proofs.YtpbbnmjkbfbelaaGreatDoor
open Go Go.Sy Go.ChangeShapes Go.WideShapes Go.ChangeAt Go.WideElems Go.RowKit Go.Joins Go.Deep
set_option maxRecDepth 100000 in
theorem analogyCosts_lifted (os : Os) (started : os.Started) (H : Type) (enc : TypeId × Value → H) :
    ReturnsInHanded {} Tryz.checked os 3 .any (fun w args => (Rows.analogyCostsSpec.pre enc Tryz.prog Tryz.f3 [] false w args ∧ laidMetH Tryz.prog laidL w) ∧ sizedMet enc Tryz.prog Tryz.f3 (OpenSpec.ofChange Rows.analogyCostsSpec) false w args) (Rows.analogyCostsSpec.post enc Tryz.prog Tryz.f3 false true false false) :=
  law_lifted (tb := 4) #[.agg #[.slice none 0 0, .slice none 0 0, .slice none 0 0, .slice none 0 0, .slice none 0 0, .int .i64 0]] (by kernel_rfl) Tryz.func3 rfl (by kernel_rfl) (by kernel_rfl) Tryz.underlying4 (fun H ds h => by
    rw [Tryz.params3] at h
    match ds, h with
    | [_], _ => rfl) os started H enc (World.shaped_of_RefB (by kernel_rfl) (by kernel_rfl)) (by kernel_rfl) (by kernel_rfl) (by kernel_rfl) fun W base args ds p hT hval hA => by
    rw [Tryz.params3] at hA hval
    obtain ⟨v0, d0, rfl, rfl, h0⟩ := trodAll_one hA
    obtain ⟨xM, xA, xB, xD, xC, rfl, hxM, hxA, hxB, hxD, hxC⟩ := open_cost Tryz.underlying28 (by kernel_rfl) (by kernel_rfl) (by kernel_rfl) (by kernel_rfl) (by kernel_rfl) (by kernel_rfl) (by kernel_rfl) (by kernel_rfl) (by kernel_rfl) (by kernel_rfl) (by kernel_rfl) (reads_slN Tryz.underlying22 (show Tryz.prog.cellsOf 36 = 2 by kernel_rfl) (reads_two Tryz.underlying36 (by kernel_rfl) (by kernel_rfl) (by kernel_rfl) (by kernel_rfl) (by kernel_rfl) (reads_slN Tryz.underlying23 (show Tryz.prog.cellsOf 71 = 2 by kernel_rfl) (reads_snd Tryz.underlying71 (by kernel_rfl) (by kernel_rfl) (by kernel_rfl) (by kernel_rfl) (by kernel_rfl) Tryz.underlying69 Tryz.underlying69)) (reads_slN Tryz.underlying23 (show Tryz.prog.cellsOf 71 = 2 by kernel_rfl) (reads_snd Tryz.underlying71 (by kernel_rfl) (by kernel_rfl) (by kernel_rfl) (by kernel_rfl) (by kernel_rfl) Tryz.underlying69 Tryz.underlying69)))) (reads_slN Tryz.underlying23 (show Tryz.prog.cellsOf 71 = 2 by kernel_rfl) (reads_snd Tryz.underlying71 (by kernel_rfl) (by kernel_rfl) (by kernel_rfl) (by kernel_rfl) (by kernel_rfl) Tryz.underlying69 Tryz.underlying69)) (reads_slN Tryz.underlying23 (show Tryz.prog.cellsOf 71 = 2 by kernel_rfl) (reads_snd Tryz.underlying71 (by kernel_rfl) (by kernel_rfl) (by kernel_rfl) (by kernel_rfl) (by kernel_rfl) Tryz.underlying69 Tryz.underlying69)) (reads_slN Tryz.underlying23 (show Tryz.prog.cellsOf 71 = 2 by kernel_rfl) (reads_snd Tryz.underlying71 (by kernel_rfl) (by kernel_rfl) (by kernel_rfl) (by kernel_rfl) (by kernel_rfl) Tryz.underlying69 Tryz.underlying69)) (reads_costs Tryz.underlying26 (by kernel_rfl) (by kernel_rfl) (by kernel_rfl) (by kernel_rfl) (by kernel_rfl) Tryz.underlying24 Tryz.underlying2 (by kernel_rfl) Tryz.underlying2) (hval 0 28 v0 rfl rfl) h0
    have hcall := l_AnalogyCosts xM.p xC.p xM.cap xC.cap (xM.l.map mdOf) ⟨xA.p, xA.cap, xA.l⟩ ⟨xB.p, xB.cap, xB.l⟩ ⟨xD.p, xD.cap, xD.l⟩ xC.l xC.gap (models_ok hxM) hxA.2.2.2 hxB.2.2.2 hxD.2.2.2 ⟨hxA.2.1.2, hxA.2.1.1⟩ (models_len hxM) ⟨len62 hxA.2.2.1, len62 hxB.2.2.1, len62 hxD.2.2.1⟩
    rw [List.length_map] at hcall
    exact ⟨_, _, rfl, ⟨models_at hxM, hxA.1, hxB.1, hxD.1, hxC.1, hT⟩, hcall⟩
theorem analogyCosts_holds : Rows.AnalogyCostsSaid :=
  OpenClaim.holds_of_wide 3 Tryz.f3 rfl rfl rfl rfl rfl rfl rfl ⟨rfl, rfl, rfl, rfl, rfl⟩ rfl rfl rfl rfl rfl (by kernel_rfl) Tryz.func3 (by kernel_rfl)
    (of_decide_eq_true (by kernel_rfl)) (by unfold Func.isWrapper; first | (rw [if_pos (by decide +kernel)]; kernel_rfl) | (rw [if_neg (by decide +kernel)]; exact ⟨rfl, rfl⟩))
    (fun os started H enc _ => analogyCosts_lifted os started H enc)
theorem analogyCosts_card : Rows.AnalogyCostsCardSaid :=
  Claim7.holds_tied_plain_at .later [] [.data, .funcs, .funcs, .funcs] true (true, "a29cb1b6d6864ad4f7dcdd7ad3a103b5561b9208b2ca739bf271f602df91c468") false
    analogyCosts_holds (fun _ h => by cases h) (by kernel_rfl) (fun _ h => by cases h) analogyCosts_row_tie rfl ⟨rfl, rfl⟩ (by kernel_rfl) rfl
    (fun f fn hf hfn => by
      obtain rfl : f = 3 := Option.some.inj ((show Tryz.prog.funcNamed "ablaut/ablautlaw30.AnalogyCosts" = some 3 by kernel_rfl).symm.trans hf) |>.symm
      obtain rfl : fn = Tryz.f3 := (Option.some.inj (Tryz.func3.symm.trans hfn)).symm
      exact ⟨by kernel_rfl, fun j t ht => by
        rw [Tryz.params3] at ht
        have hm : t ∈ [28] := by
          have := Array.mem_of_getElem? ht
          simpa using this
        have hall : ([28].all fun u => !Tryz.prog.wantsStandIn u) = true := by kernel_rfl
        exact (show Tryz.prog.wantsStandIn t = false by simpa using List.all_eq_true.1 hall t hm)⟩)
    (by kernel_rfl)
#print axioms analogyCosts_card
end Go.Proofs.YtpbbnmjkbfbelaaGreatDoor
