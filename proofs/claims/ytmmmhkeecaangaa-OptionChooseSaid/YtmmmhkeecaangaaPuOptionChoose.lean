/- OptionChoose: its plain part: the law answers true. Conditions: those of its arguments' kinds. -/
import Derived.Test.YtmmmhkeecaangaaPoc
import Derived.Test.YtmmmhkeecaangaaQx22
import Derived.Test.YtmmmhkeecaangaaQOpen
namespace Go.Proofs.Ytmmmhkeecaangaa.Q
open Go.RowKit Go.Proofs.YtmmmhkeecaangaaW.PrintWords Go.Proofs.YtmmmhkeecaangaaW.PrintLast Go.Proofs.YtmmmhkeecaangaaW.PrintMore Go.Proofs.Ytmmmhkeecaangaa.Wire
set_option linter.unusedVariables false
set_option linter.unusedSimpArgs false

theorem OptionChoose_true (x0 : S37) (o0 : okT_37 x0) (a1 : Int) (w1 : (Lit.int .i64 a1).wf = true) (a2 : Int) (w2 : (Lit.int .i64 a2).wf = true) (l3 : List Int) (hm3 : l3.length ≤ maxLen) (y3 : l3.length * 8 ≤ 140737488351232) (hw3 : ∀ x ∈ l3, (Lit.int .i64 x).wf = true) : Ev (fun k => bandplanlaw30_OptionChoose.f k x0.f0 x0.f1 x0.f2 a1 a2 l3) true := by
  have easy : ∀ b, b = true → Ev (fun k => bandplanlaw30_OptionChoose.j0 k a1 a2 l3 b x0.f0 x0.f1 x0.f2) true := fun b hb => by
    refine Ev.step (fun _ => bandplanlaw30_OptionChoose.j0.eq_2 ..) ?_
    simp only [if_pos hb, bandplanlaw30_known.f, Option.bind_some]
    exact Ev.now _
  unfold bandplanlaw30_OptionChoose.f
  by_cases h1 : (x0.f2.length : Int) > 20
  · simp only [if_pos h1]; exact easy _ rfl
  by_cases h2 : (l3.length : Int) > 20
  · simp only [if_neg h1]; exact easy _ (decide_eq_true h2)
  simp only [if_neg h1]
  refine Ev.step (fun _ => bandplanlaw30_OptionChoose.j0.eq_2 ..) ?_
  simp only [decide_eq_false h2, Bool.false_eq_true, if_false, option_Choose.f, bandplanlaw30_known.f, Option.bind_some, if_pos (show l3.length ≤ 100000000 by omega)]
  refine Ev.bind (choose_ev _ _ _ _ _ _ (by omega) (by omega)) ?_
  simp only [if_true]
  exact Ev.now _
end Go.Proofs.Ytmmmhkeecaangaa.Q
