/- OptionAllowed: its plain part: the law answers true. Conditions: those of its arguments' kinds. -/
import Derived.Test.YtmmmhkeecaangaaPoc
import Derived.Test.YtmmmhkeecaangaaQx7
namespace Go.Proofs.Ytmmmhkeecaangaa.Q
open Go.RowKit Go.Proofs.YtmmmhkeecaangaaW.PrintWords Go.Proofs.YtmmmhkeecaangaaW.PrintLast Go.Proofs.YtmmmhkeecaangaaW.PrintMore Go.Proofs.Ytmmmhkeecaangaa.Wire
set_option linter.unusedVariables false
set_option linter.unusedSimpArgs false

theorem OptionAllowed_true (a0 : Int) (w0 : (Lit.int .i64 a0).wf = true) (a1 : Int) (w1 : (Lit.int .i64 a1).wf = true) (a2 : Int) (w2 : (Lit.int .i64 a2).wf = true) : Ev (fun k => bandplanlaw30_OptionAllowed.f k a0 a1 a2) true := by
  unfold bandplanlaw30_OptionAllowed.f
  simp only [option_Options.f, bandplanref30_Options.f, option_Allowed.f, bandplanref30_Allowed.f, bandplanlaw30_known.f, Option.bind_some, if_true, beq_self_eq_true]
  have hl : (if goodB a0 a1 = true then rangeI a1 a0 else []).length < 4611686018427387904 := by
    by_cases h : goodB a0 a1 = true
    · rw [if_pos h, rangeI_len]; have := (goodB_iff a0 a1).1 h; omega
    · rw [if_neg h]; simp
  refine Ev.bind (same_refl _ hl) ?_
  simp only [if_true]
  exact Ev.now _
end Go.Proofs.Ytmmmhkeecaangaa.Q
