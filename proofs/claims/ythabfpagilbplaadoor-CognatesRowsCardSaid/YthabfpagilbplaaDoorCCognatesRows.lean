/- CognatesRows: for every input the law returns true, and its arguments read as before. There is no condition beside the statement's own. -/
import Derived.Test.YthabfpagilbplaaDoorWn
import Derived.Test.YthabfpagilbplaaDoorBw
import Derived.Test.YthabfpagilbplaaDoorTie
import Derived.Test.YthabfpagilbplaaDoorCards
set_option linter.unusedSimpArgs false
set_option linter.unusedVariables false
namespace Go.Proofs.YthabfpagilbplaaDoor
open Go Go.Sy Go.ChangeShapes Go.WideShapes Go.ChangeAt Go.WideElems Go.RowKit Go.Joins Go.Deep
set_option maxRecDepth 100000 in
theorem cognatesRows_lifted (os : Os) (started : os.Started) (H : Type) (enc : TypeId × Value → H) :
    ReturnsInHanded {} Tryd.checked os 13 .any (fun w args => (Rows.cognatesRowsSpec.pre enc Tryd.prog Tryd.f13 [] false w args ∧ laidMetH Tryd.prog laidL w) ∧ sizedMet enc Tryd.prog Tryd.f13 (OpenSpec.ofChange Rows.cognatesRowsSpec) false w args) (Rows.cognatesRowsSpec.post enc Tryd.prog Tryd.f13 false true false false) :=
  law_lifted (tb := 4) #[.slice none 0 0, .agg #[.int .u8 0, .int .u8 0, .int .u8 0, .int .u8 0], .int .u8 0, .int .u8 0, .int .u8 0, .int .u8 0] (by kernel_rfl) Tryd.func13 rfl (by kernel_rfl) (by kernel_rfl) Tryd.underlying4 (fun H ds h => by
    rw [Tryd.params13] at h
    match ds, h with
    | [_, _, _, _, _, _], _ => rfl) os started H enc (World.shaped_of_RefB (by kernel_rfl) (by kernel_rfl)) (by kernel_rfl) (by kernel_rfl) (by kernel_rfl) fun W base args ds p hT hval hA => by
    rw [Tryd.params13] at hA hval
    obtain ⟨v0, vs0, d0, ds0, p0, q0, hargs, rfl, rfl, h0, r0⟩ := trodAll_cons hA
    obtain ⟨v1, vs1, d1, ds1, p1, q1, rfl, rfl, rfl, h1, r1⟩ := trodAll_cons r0
    obtain ⟨v2, vs2, d2, ds2, p2, q2, rfl, rfl, rfl, h2, r2⟩ := trodAll_cons r1
    obtain ⟨v3, vs3, d3, ds3, p3, q3, rfl, rfl, rfl, h3, r3⟩ := trodAll_cons r2
    obtain ⟨v4, vs4, d4, ds4, p4, q4, rfl, rfl, rfl, h4, r4⟩ := trodAll_cons r3
    obtain ⟨v5, vs5, d5, ds5, p5, q5, rfl, rfl, rfl, h5, r5⟩ := trodAll_cons r4
    obtain ⟨rfl, rfl, rfl⟩ := trodAll_nil r5
    obtain rfl : args = #[v0, v1, v2, v3, v4, v5] := by rw [← Array.toList_inj]; exact hargs
    obtain ⟨s, rfl, hs⟩ := arg_slN Tryd.underlying81 (show Tryd.prog.cellsOf 38 = 1 by kernel_rfl) (reads_slN Tryd.underlying38 (show Tryd.prog.cellsOf 63 = 1 by kernel_rfl) (reads_slN Tryd.underlying63 (show Tryd.prog.cellsOf 5 = 1 by kernel_rfl) (reads_int (k := .u8) Tryd.underlying5))) (hval 0 81 v0 rfl rfl) h0
    obtain ⟨ka, kb, kc, kd, rfl, hka, hkb, hkc, hkd⟩ := open_fourK Tryd.underlying39 Tryd.underlying5 (by kernel_rfl) (by kernel_rfl) (hval 1 39 v1 rfl rfl) h1
    obtain ⟨n, rfl, rfl, rfl, wn⟩ := open_int Tryd.underlying5 (hval 2 5 v2 rfl rfl) h2
    obtain ⟨d, rfl, rfl, rfl, wd⟩ := open_int Tryd.underlying5 (hval 3 5 v3 rfl rfl) h3
    obtain ⟨u, rfl, rfl, rfl, wu⟩ := open_int Tryd.underlying5 (hval 4 5 v4 rfl rfl) h4
    obtain ⟨z, rfl, rfl, rfl, wz⟩ := open_int Tryd.underlying5 (hval 5 5 v5 rfl rfl) h5
    have hcall := l_CognatesRows s.p s.cap (s.l.map rwOf) ka kb kc kd n d u z (by rw [List.length_map]; exact hs.2.1.2) (rows88_ok hs) (wf8 hka) (wf8 hkb) (wf8 hkc) (wf8 hkd) (wf8 wn) (wf8 wd) (wf8 wu) (wf8 wz)
    rw [List.length_map] at hcall
    exact ⟨_, _, rfl, ⟨rows88_at hs, hT⟩, hcall⟩
theorem cognatesRows_holds : Rows.CognatesRowsSaid :=
  OpenClaim.holds_of_wide 13 Tryd.f13 rfl rfl rfl rfl rfl rfl rfl ⟨rfl, rfl, rfl, rfl, rfl⟩ rfl rfl rfl rfl rfl (by kernel_rfl) Tryd.func13 (by kernel_rfl)
    (of_decide_eq_true (by kernel_rfl)) (by unfold Func.isWrapper; first | (rw [if_pos (by decide +kernel)]; kernel_rfl) | (rw [if_neg (by decide +kernel)]; exact ⟨rfl, rfl⟩))
    (fun os started H enc _ => cognatesRows_lifted os started H enc)
theorem cognatesRows_card : Rows.CognatesRowsCardSaid :=
  Claim7.holds_tied_plain_at .later [] [.data] true (true, "74ded2b13ce3947ec1417d0a3395b495d68a45363c58ec8ee3d6fbdb1ee942b2") false
    cognatesRows_holds (fun _ h => by cases h) (by kernel_rfl) (fun _ h => by cases h) cognatesRows_row_tie rfl ⟨rfl, rfl⟩ (by kernel_rfl) rfl
    (fun f fn hf hfn => by
      obtain rfl : f = 13 := Option.some.inj ((show Tryd.prog.funcNamed "ablaut/ablautlaw19.CognatesRows" = some 13 by kernel_rfl).symm.trans hf) |>.symm
      obtain rfl : fn = Tryd.f13 := (Option.some.inj (Tryd.func13.symm.trans hfn)).symm
      exact ⟨by kernel_rfl, fun j t ht => by
        rw [Tryd.params13] at ht
        have hm : t ∈ [81, 39, 5] := by
          have := Array.mem_of_getElem? ht
          simpa using this
        have hall : ([81, 39, 5].all fun u => !Tryd.prog.wantsStandIn u) = true := by kernel_rfl
        exact (show Tryd.prog.wantsStandIn t = false by simpa using List.all_eq_true.1 hall t hm)⟩)
    (by kernel_rfl)
#print axioms cognatesRows_card
end Go.Proofs.YthabfpagilbplaaDoor
