/- TopReconstructs: for every input the law returns true, and its arguments read as before. There is no condition beside the statement's own. -/
import Derived.Test.YtkhcfbdjmpodbaaDoorK9
import Derived.Test.YtkhcfbdjmpodbaaDoorWz
import Derived.Test.YtkhcfbdjmpodbaaDoorTie
import Derived.Test.YtkhcfbdjmpodbaaDoorCards
set_option linter.unusedSimpArgs false
set_option linter.unusedVariables false
namespace Go.Proofs.YtkhcfbdjmpodbaaDoor
open Go Go.Sy Go.ChangeShapes Go.WideShapes Go.ChangeAt Go.WideElems Go.RowKit Go.Joins Go.Deep
set_option maxRecDepth 100000 in
theorem topReconstructs_lifted (os : Os) (started : os.Started) (H : Type) (enc : TypeId × Value → H) :
    ReturnsInHanded {} Tryd.checked os 3 .any (fun w args => (Rows.topReconstructsSpec.pre enc Tryd.prog Tryd.f3 [] false w args ∧ laidMetH Tryd.prog laidL w) ∧ sizedMet enc Tryd.prog Tryd.f3 (OpenSpec.ofChange Rows.topReconstructsSpec) false w args) (Rows.topReconstructsSpec.post enc Tryd.prog Tryd.f3 false true false false) :=
  law_liftedW (tb := 4) #[.slice none 0 0, .agg #[.string ⟨#[]⟩, .slice none 0 0], .agg #[.slice none 0 0, .int .i64 0]] (by kernel_rfl) Tryd.func3 rfl (by kernel_rfl) (by kernel_rfl) Tryd.underlying4 (fun H ds h => by
    rw [Tryd.params3] at h
    match ds, h with
    | [_, _, _], _ => rfl) os started H enc (World.shaped_of_RefB (by kernel_rfl) (by kernel_rfl)) (by kernel_rfl) (by kernel_rfl) (by kernel_rfl) fun W base args ds p hT hval hA hsz => by
    rw [Tryd.params3] at hA hval hsz
    obtain ⟨v0, v1, v2, d0, d1, d2, p0, p1, p2, rfl, rfl, rfl, h0, h1, h2⟩ := trodAll_three hA
    obtain ⟨t, rfl, ht⟩ := arg_slW Tryd.underlying22 (show Tryd.prog.cellsOf 55 = 2 by kernel_rfl) (reads_struct2 (k0 := 1) (k1 := 1) Tryd.underlying55 (by kernel_rfl) (by kernel_rfl) (by kernel_rfl) (by kernel_rfl) (by kernel_rfl) (readsW (reads_int (k := .i64) Tryd.underlying3)) (reads_string Tryd.underlying9)) (hval 0 22 v0 rfl rfl) h0 (weightsEach_at (j := 0) hsz rfl rfl)
    obtain ⟨⟨eg, e⟩, rfl, he⟩ := arg_structW Tryd.underlying25 (reads_struct2 (k0 := 1) (k1 := 1) Tryd.underlying25 (by kernel_rfl) (by kernel_rfl) (by kernel_rfl) (by kernel_rfl) (by kernel_rfl) (reads_string Tryd.underlying9) (reads_slW Tryd.underlying23 (show Tryd.prog.cellsOf 47 = 2 by kernel_rfl) (reads_struct2 (k0 := 1) (k1 := 1) Tryd.underlying47 (by kernel_rfl) (by kernel_rfl) (by kernel_rfl) (by kernel_rfl) (by kernel_rfl) (readsW (reads_bool Tryd.underlying4)) (reads_slW Tryd.underlying37 (show Tryd.prog.cellsOf 41 = 2 by kernel_rfl) (readsW (reads_snd Tryd.underlying41 (by kernel_rfl) (by kernel_rfl) (by kernel_rfl) (by kernel_rfl) (by kernel_rfl) Tryd.underlying39 Tryd.underlying39)))))) (hval 1 25 v1 rfl rfl) h1 (weightsEach_at (j := 1) hsz rfl rfl)
    obtain ⟨⟨c, cg⟩, rfl, hc⟩ := arg_structW Tryd.underlying28 (reads_struct2 (k0 := 1) (k1 := 1) Tryd.underlying28 (by kernel_rfl) (by kernel_rfl) (by kernel_rfl) (by kernel_rfl) (by kernel_rfl) (reads_slW Tryd.underlying26 (show Tryd.prog.cellsOf 2 = 1 by kernel_rfl) (readsW (reads_int (k := .i64) Tryd.underlying2))) (readsW (reads_int (k := .i64) Tryd.underlying2))) (hval 2 28 v2 rfl rfl) h2 (weightsEach_at (j := 2) hsz rfl rfl)
    have hcall := l_TopReconstructs (strV eg) t.p e.p c.p t.cap e.cap c.cap (t.l.map ndOf) (e.l.map fdOf) c.l cg rfl (by rw [List.length_map]; exact reach45 ht.2 (Nat.le_trans (by decide) (Nat.le_of_eq (show 24 = Tryd.prog.bytesOf 55 by kernel_rfl)))) (nodes_nm ht) (by rw [List.length_map]; exact reach45 he.2.2 (Nat.le_trans (by decide) (Nat.le_of_eq (show 32 = Tryd.prog.bytesOf 47 by kernel_rfl)))) (forms_w he.2 (Nat.le_trans (by decide) (Nat.le_of_eq (show 8 = Tryd.prog.bytesOf 41 by kernel_rfl)))) (forms_ok he.2) (reach45 hc.1.2 (Nat.le_trans (by decide) (Nat.le_of_eq (show 8 = Tryd.prog.bytesOf 2 by kernel_rfl))))
    rw [List.length_map, List.length_map] at hcall
    exact ⟨_, _, rfl, ⟨nodes_at ht, forms_at he.2, ints_at hc.1.1, hT⟩, hcall⟩
theorem topReconstructs_holds : Rows.TopReconstructsSaid :=
  OpenClaim.holds_of_wide 3 Tryd.f3 rfl rfl rfl rfl rfl rfl rfl ⟨rfl, rfl, rfl, rfl, rfl⟩ rfl rfl rfl rfl rfl (by kernel_rfl) Tryd.func3 (by kernel_rfl)
    (of_decide_eq_true (by kernel_rfl)) (by unfold Func.isWrapper; first | (rw [if_pos (by decide +kernel)]; kernel_rfl) | (rw [if_neg (by decide +kernel)]; exact ⟨rfl, rfl⟩))
    (fun os started H enc _ => topReconstructs_lifted os started H enc)
theorem topReconstructs_card : Rows.TopReconstructsCardSaid :=
  Claim7.holds_tied_plain_at .later [] [.data, .funcs] true (true, "26ff8b0ec24348c9cff4336ef6d4891fde5ebd29052f634f081f31b1a3995e0a") false
    topReconstructs_holds (fun _ h => by cases h) (by kernel_rfl) (fun _ h => by cases h) topReconstructs_row_tie rfl ⟨rfl, rfl⟩ (by kernel_rfl) rfl
    (fun f fn hf hfn => by
      obtain rfl : f = 3 := Option.some.inj ((show Tryd.prog.funcNamed "ablaut/ablauttop.TopReconstructs" = some 3 by kernel_rfl).symm.trans hf) |>.symm
      obtain rfl : fn = Tryd.f3 := (Option.some.inj (Tryd.func3.symm.trans hfn)).symm
      exact ⟨by kernel_rfl, fun j t ht => by
        rw [Tryd.params3] at ht
        have hm : t ∈ [22, 25, 28] := by
          have := Array.mem_of_getElem? ht
          simpa using this
        have hall : ([22, 25, 28].all fun u => !Tryd.prog.wantsStandIn u) = true := by kernel_rfl
        exact (show Tryd.prog.wantsStandIn t = false by simpa using List.all_eq_true.1 hall t hm)⟩)
    (by kernel_rfl)
#print axioms topReconstructs_card
end Go.Proofs.YtkhcfbdjmpodbaaDoor
