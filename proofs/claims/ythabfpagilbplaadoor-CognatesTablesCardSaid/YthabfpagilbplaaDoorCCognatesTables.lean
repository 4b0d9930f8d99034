/- CognatesTables: for every input the law returns true, and its arguments read as before. There is no condition beside the statement's own. -/
import Derived.Test.YthabfpagilbplaaDoorWj
import Derived.Test.YthabfpagilbplaaDoorWd
import Derived.Test.YthabfpagilbplaaDoorTie
import Derived.Test.YthabfpagilbplaaDoorCards
set_option linter.unusedSimpArgs false
set_option linter.unusedVariables false
namespace Go.Proofs.YthabfpagilbplaaDoor
open Go Go.Sy Go.ChangeShapes Go.WideShapes Go.ChangeAt Go.WideElems Go.RowKit Go.Joins Go.Deep
set_option maxRecDepth 100000 in
theorem cognatesTables_lifted (os : Os) (started : os.Started) (H : Type) (enc : TypeId × Value → H) :
    ReturnsInHanded {} Tryd.checked os 12 .any (fun w args => (Rows.cognatesTablesSpec.pre enc Tryd.prog Tryd.f12 [] false w args ∧ laidMetH Tryd.prog laidL w) ∧ sizedMet enc Tryd.prog Tryd.f12 (OpenSpec.ofChange Rows.cognatesTablesSpec) false w args) (Rows.cognatesTablesSpec.post enc Tryd.prog Tryd.f12 false true false false) :=
  law_lifted (tb := 4) #[.slice none 0 0, .agg #[.slice none 0 0, .int .i64 0], .agg #[.int .i64 0, .int .i64 0]] (by kernel_rfl) Tryd.func12 rfl (by kernel_rfl) (by kernel_rfl) Tryd.underlying4 (fun H ds h => by
    rw [Tryd.params12] at h
    match ds, h with
    | [_, _, _], _ => rfl) os started H enc (World.shaped_of_RefB (by kernel_rfl) (by kernel_rfl)) (by kernel_rfl) (by kernel_rfl) (by kernel_rfl) fun W base args ds p hT hval hA => by
    rw [Tryd.params12] at hA hval
    obtain ⟨v0, v1, v2, d0, d1, d2, p0, p1, p2, rfl, rfl, rfl, h0, h1, h2⟩ := trodAll_three hA
    obtain ⟨s, rfl, hs⟩ := arg_slN Tryd.underlying76 (show Tryd.prog.cellsOf 78 = 2 by kernel_rfl) (reads_entry Tryd.underlying78 (by kernel_rfl) (by kernel_rfl) (by kernel_rfl) (by kernel_rfl) (by kernel_rfl) (by kernel_rfl) (reads_slN Tryd.underlying22 (show Tryd.prog.cellsOf 50 = 2 by kernel_rfl) (reads_form Tryd.underlying50 (by kernel_rfl) (by kernel_rfl) (by kernel_rfl) (by kernel_rfl) (by kernel_rfl) (by kernel_rfl) (reads_slN Tryd.underlying48 (show Tryd.prog.cellsOf 56 = 2 by kernel_rfl) (reads_snd Tryd.underlying56 (by kernel_rfl) (by kernel_rfl) (by kernel_rfl) (by kernel_rfl) (by kernel_rfl) Tryd.underlying54 Tryd.underlying54))))) (hval 0 76 v0 rfl rfl) h0
    obtain ⟨cp, cc, cw, cg, rfl, hc⟩ := open_costs _ _ Tryd.underlying25 (by kernel_rfl) (by kernel_rfl) Tryd.underlying23 Tryd.underlying2 (by kernel_rfl) Tryd.underlying2 (hval 1 25 v1 rfl rfl) h1
    obtain ⟨xn, xd, rfl, hxn, hxd⟩ := open_frac _ _ Tryd.underlying27 (by kernel_rfl) (by kernel_rfl) Tryd.underlying2 Tryd.underlying2 (hval 2 27 v2 rfl rfl) h2
    have hcall := l_CognatesTables s.p s.cap (s.l.map edOf) cp cc cw cg xn xd (by rw [List.length_map]; exact len62 hs.2.2.1) (entries_ok hs).1 (entries_ok hs).2.1 (entries_ok hs).2.2 (wf64 hxn) (wf64 hxd)
    rw [List.length_map] at hcall
    exact ⟨_, _, rfl, ⟨entries_at hs, hc.1, hT⟩, hcall⟩
theorem cognatesTables_holds : Rows.CognatesTablesSaid :=
  OpenClaim.holds_of_wide 12 Tryd.f12 rfl rfl rfl rfl rfl rfl rfl ⟨rfl, rfl, rfl, rfl, rfl⟩ rfl rfl rfl rfl rfl (by kernel_rfl) Tryd.func12 (by kernel_rfl)
    (of_decide_eq_true (by kernel_rfl)) (by unfold Func.isWrapper; first | (rw [if_pos (by decide +kernel)]; kernel_rfl) | (rw [if_neg (by decide +kernel)]; exact ⟨rfl, rfl⟩))
    (fun os started H enc _ => cognatesTables_lifted os started H enc)
theorem cognatesTables_card : Rows.CognatesTablesCardSaid :=
  Claim7.holds_tied_plain_at .later [] [.data] true (true, "74ded2b13ce3947ec1417d0a3395b495d68a45363c58ec8ee3d6fbdb1ee942b2") false
    cognatesTables_holds (fun _ h => by cases h) (by kernel_rfl) (fun _ h => by cases h) cognatesTables_row_tie rfl ⟨rfl, rfl⟩ (by kernel_rfl) rfl
    (fun f fn hf hfn => by
      obtain rfl : f = 12 := Option.some.inj ((show Tryd.prog.funcNamed "ablaut/ablautlaw19.CognatesTables" = some 12 by kernel_rfl).symm.trans hf) |>.symm
      obtain rfl : fn = Tryd.f12 := (Option.some.inj (Tryd.func12.symm.trans hfn)).symm
      exact ⟨by kernel_rfl, fun j t ht => by
        rw [Tryd.params12] at ht
        have hm : t ∈ [76, 25, 27] := by
          have := Array.mem_of_getElem? ht
          simpa using this
        have hall : ([76, 25, 27].all fun u => !Tryd.prog.wantsStandIn u) = true := by kernel_rfl
        exact (show Tryd.prog.wantsStandIn t = false by simpa using List.all_eq_true.1 hall t hm)⟩)
    (by kernel_rfl)
#print axioms cognatesTables_card
end Go.Proofs.YthabfpagilbplaaDoor
