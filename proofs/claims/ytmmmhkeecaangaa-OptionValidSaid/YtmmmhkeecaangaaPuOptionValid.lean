/- OptionValid: its plain part: the law answers true. Conditions: those of its arguments' kinds. -/
import Derived.Test.YtmmmhkeecaangaaPoc
import Derived.Test.YtmmmhkeecaangaaQx18
import Derived.Test.YtmmmhkeecaangaaQOpen
namespace Go.Proofs.Ytmmmhkeecaangaa.Q
open Go.RowKit Go.Proofs.YtmmmhkeecaangaaW.PrintWords Go.Proofs.YtmmmhkeecaangaaW.PrintLast Go.Proofs.YtmmmhkeecaangaaW.PrintMore Go.Proofs.Ytmmmhkeecaangaa.Wire
set_option linter.unusedVariables false
set_option linter.unusedSimpArgs false

theorem OptionValid_true (x0 : S37) (o0 : okT_37 x0) (l1 : List S37) (o1 : okT_38 l1) (a2 : Int) (w2 : (Lit.int .i64 a2).wf = true) (a3 : Int) (w3 : (Lit.int .i64 a3).wf = true) : Ev (fun k => bandplanlaw30_OptionValid.f k x0.f0 x0.f1 x0.f2 l1 a2 a3) true := by
  have easy : ∀ b, b = true → Ev (fun k => bandplanlaw30_OptionValid.j0 k l1 a2 a3 b x0.f0 x0.f1 x0.f2) true := fun b hb => by
    refine Ev.step (fun _ => bandplanlaw30_OptionValid.j0.eq_2 ..) ?_
    simp only [if_pos hb, bandplanlaw30_known.f, Option.bind_some]
    exact Ev.now _
  unfold bandplanlaw30_OptionValid.f
  by_cases h1 : (x0.f2.length : Int) > 20
  · simp only [if_pos h1]; exact easy _ rfl
  by_cases h2 : (l1.length : Int) > 30
  · simp only [if_neg h1]; exact easy _ (decide_eq_true h2)
  simp only [if_neg h1]
  refine Ev.step (fun _ => bandplanlaw30_OptionValid.j0.eq_2 ..) ?_
  simp only [decide_eq_false h2, Bool.false_eq_true, if_false, option_Valid.f, option_ValidFor.f, option_ValidBids.f, bandplanlaw30_known.f, Option.bind_some, if_pos (show l1.length ≤ 100000000 by omega)]
  refine Ev.bind (valid_ev _ _ _) ?_
  simp only [beq_self_eq_true, if_true]
  refine Ev.bind (validFor_ev _ _ _ _ _ (by omega)) ?_
  simp only [beq_self_eq_true, if_true]
  refine Ev.bind (validBids_ev l1 (by omega)) ?_
  simp only [beq_self_eq_true, if_true]
  exact Ev.now _
end Go.Proofs.Ytmmmhkeecaangaa.Q
